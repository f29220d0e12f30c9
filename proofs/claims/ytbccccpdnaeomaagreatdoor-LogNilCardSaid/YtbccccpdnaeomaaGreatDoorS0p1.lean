import Derived.Test.YtbccccpdnaeomaaGreatDoorShBase
set_option linter.unusedVariables false
namespace Go.Proofs.YtbccccpdnaeomaaGreatDoor
open Go.Sh
def f109.sh (Z : List PanicEntry → World → Prop) (x0 x1 x2 : Value) (w : World) (Q : Value → World → Prop) : Prop :=
 run1 Tryz.prog Z (eqOp .eql 9 false true x0 (.string { data := #[] })) w fun t1 w =>
 CondV t1 (
 run1 Tryz.prog Z (Instr.makeInterface 156 (.int .i64 2)) w fun t2 w =>
 Q (Value.tuple #[(.int .u64 0), t2]) w) (
 run1 Tryz.prog Z (eqOp .eql 3 false true x1 (.int .i64 0)) w fun t3 w =>
 ∀ j_4 : Value → Value → World → Prop, (∀ t5 : Value, ∀ t6 : Value, ∀ w : World, (Env →
 ∀ j_7 : Value → World → Prop, (∀ t8 : Value, ∀ w : World, (Env →
 ∀ j_9 : Value → World → Prop, (∀ t10 : Value, ∀ w : World, (Env →
 run1 Tryz.prog Z (convert 3 130 t8) w fun t11 w =>
 run1 Tryz.prog Z (binOp .shl 115 (.int .u64 1) t11) w fun t12 w =>
 run1 Tryz.prog Z (binOp .sub 115 t12 (.int .u64 1)) w fun t13 w =>
 run1 Tryz.prog Z (convert 9 53 t5) w fun t14 w =>
 run1 Tryz.prog Z (Builtin.len_ #[53] 3 #[t14]) w fun t15 w =>
 ∃ J_16 : Nat → Value → Value → Value → World → Prop, (∃ m, J_16 m (.bool false) (.int .u64 0) (.int .i64 0) w) ∧
 ∀ m_16, ∀ t17 : Value, ∀ t18 : Value, ∀ t19 : Value, ∀ w : World, J_16 m_16 t17 t18 t19 w → Env →
 run1 Tryz.prog Z (binOp .lss 3 t19 t15) w fun t20 w =>
 CondV t20 (
 ∀ j_21 : Value → Value → World → Prop, (∀ t22 : Value, ∀ t23 : Value, ∀ w : World, (Env →
 run1 Tryz.prog Z (binOp .add 3 t19 (.int .i64 1)) w fun t24 w =>
 ∃ n_16, n_16 < m_16 ∧ J_16 n_16 t22 t23 t24 w) →
 j_21 t22 t23 w) →
 run1 Tryz.prog Z (Instr.indexAt 53 t14 t19) w fun t25 w =>
 run1 Tryz.prog Z (Instr.loadAt 5 t25) w fun t26 w =>
 ∀ j_27 : Value → Value → World → Prop, (∀ t28 : Value, ∀ t29 : Value, ∀ w : World, (Env →
 run1 Tryz.prog Z (convert 3 5 t6) w fun t30 w =>
 run1 Tryz.prog Z (binOp .geq 5 t29 t30) w fun t31 w =>
 CondV t31 (
 run1 Tryz.prog Z (Instr.makeInterface 156 (.int .i64 2)) w fun t32 w =>
 Q (Value.tuple #[(.int .u64 0), t32]) w) (
 run1 Tryz.prog Z (binOp .geq 115 t18 t10) w fun t33 w =>
 CondV t33 (
 run1 Tryz.prog Z (Instr.makeInterface 156 (.int .i64 1)) w fun t34 w =>
 Q (Value.tuple #[t13, t34]) w) (
 run1 Tryz.prog Z (convert 3 115 t6) w fun t35 w =>
 run1 Tryz.prog Z (binOp .mul 115 t18 t35) w fun t36 w =>
 run1 Tryz.prog Z (convert 5 115 t29) w fun t37 w =>
 run1 Tryz.prog Z (binOp .add 115 t36 t37) w fun t38 w =>
 run1 Tryz.prog Z (binOp .lss 115 t38 t36) w fun t39 w =>
 guardW (t39) false (fun k => k (t38) w) (fun t40 w =>
 guardW (t39) false (fun k => k (t13) w) (fun t41 w =>
 guardW (t39) false (fun k => run1 Tryz.prog Z (binOp .gtr 115 t40 t41) w k) (fun t42 w =>
 run1 Tryz.prog Z (pickV t39 (.bool true) t42) w fun t43 w =>
 CondV t43 (
 run1 Tryz.prog Z (Instr.makeInterface 156 (.int .i64 1)) w fun t44 w =>
 Q (Value.tuple #[t13, t44]) w) (
 j_21 t28 t38 w)) w) w) w))) →
 j_27 t28 t29 w) →
 run1 Tryz.prog Z (eqOp .eql 5 false true t26 (.int .u8 95)) w fun t45 w =>
 guardW (t45) true (fun k => k (t3) w) (fun t46 w =>
 run1 Tryz.prog Z (pickV t45 t46 (.bool false)) w fun t47 w =>
 CondV t47 (
 j_21 (.bool true) t18 w) (
 run1 Tryz.prog Z (binOp .leq 5 (.int .u8 48) t26) w fun t48 w =>
 guardW (t48) true (fun k => k (t26) w) (fun t49 w =>
 guardW (t48) true (fun k => run1 Tryz.prog Z (binOp .leq 5 t49 (.int .u8 57)) w k) (fun t50 w =>
 run1 Tryz.prog Z (pickV t48 t50 (.bool false)) w fun t51 w =>
 CondV t51 (
 run1 Tryz.prog Z (binOp .sub 5 t26 (.int .u8 48)) w fun t52 w =>
 j_27 t17 t52 w) (
 CallV Tryz.prog Z 154 #[t26] w fun t53 w =>
 run1 Tryz.prog Z (binOp .leq 5 (.int .u8 97) t53) w fun t54 w =>
 guardW (t54) true (fun k => k (t26) w) (fun t55 w =>
 guardW (t54) true (fun k => CallV Tryz.prog Z 154 #[t55] w k) (fun t56 w =>
 guardW (t54) true (fun k => run1 Tryz.prog Z (binOp .leq 5 t56 (.int .u8 122)) w k) (fun t57 w =>
 run1 Tryz.prog Z (pickV t54 t57 (.bool false)) w fun t58 w =>
 CondV t58 (
 CallV Tryz.prog Z 154 #[t26] w fun t59 w =>
 run1 Tryz.prog Z (binOp .sub 5 t59 (.int .u8 97)) w fun t60 w =>
 run1 Tryz.prog Z (binOp .add 5 t60 (.int .u8 10)) w fun t61 w =>
 j_27 t17 t61 w) (
 run1 Tryz.prog Z (Instr.makeInterface 156 (.int .i64 2)) w fun t62 w =>
 Q (Value.tuple #[(.int .u64 0), t62]) w)) w) w) w)) w) w)) w) (
 guardW (t17) true (fun k => k (x0) w) (fun t63 w =>
 guardW (t17) true (fun k => CallV Tryz.prog Z 155 #[t63] w k) (fun t64 w =>
 guardW (t17) true (fun k => run1 Tryz.prog Z (Op.unary .not t64) w k) (fun t65 w =>
 run1 Tryz.prog Z (pickV t17 t65 (.bool false)) w fun t66 w =>
 CondV t66 (
 run1 Tryz.prog Z (Instr.makeInterface 156 (.int .i64 2)) w fun t67 w =>
 Q (Value.tuple #[(.int .u64 0), t67]) w) (
 Q (Value.tuple #[t18, .nilIface]) w)) w) w) w)) →
 j_9 t10 w) →
 run1 Tryz.prog Z (eqOp .eql 3 false true t6 (.int .i64 10)) w fun t68 w =>
 CondV t68 (
 j_9 (.int .u64 1844674407370955162) w) (
 run1 Tryz.prog Z (eqOp .eql 3 false true t6 (.int .i64 16)) w fun t69 w =>
 CondV t69 (
 j_9 (.int .u64 1152921504606846976) w) (
 run1 Tryz.prog Z (convert 3 115 t6) w fun t70 w =>
 run1 Tryz.prog Z (binOp .quo 115 (.int .u64 18446744073709551615) t70) w fun t71 w =>
 run1 Tryz.prog Z (binOp .add 115 t71 (.int .u64 1)) w fun t72 w =>
 j_9 t72 w))) →
 j_7 t8 w) →
 run1 Tryz.prog Z (eqOp .eql 3 false true x2 (.int .i64 0)) w fun t73 w =>
 CondV t73 (
 j_7 (.int .i64 64) w) (
 run1 Tryz.prog Z (binOp .lss 3 x2 (.int .i64 0)) w fun t74 w =>
 guardW (t74) false (fun k => k (x2) w) (fun t75 w =>
 guardW (t74) false (fun k => run1 Tryz.prog Z (binOp .gtr 3 t75 (.int .i64 64)) w k) (fun t76 w =>
 run1 Tryz.prog Z (pickV t74 (.bool true) t76) w fun t77 w =>
 CondV t77 (
 run1 Tryz.prog Z (Instr.makeInterface 156 (.int .i64 4)) w fun t78 w =>
 Q (Value.tuple #[(.int .u64 0), t78]) w) (
 j_7 x2 w)) w) w)) →
 j_4 t5 t6 w) →
 run1 Tryz.prog Z (binOp .leq 3 (.int .i64 2) x1) w fun t79 w =>
 guardW (t79) true (fun k => k (x1) w) (fun t80 w =>
 guardW (t79) true (fun k => run1 Tryz.prog Z (binOp .leq 3 t80 (.int .i64 36)) w k) (fun t81 w =>
 run1 Tryz.prog Z (pickV t79 t81 (.bool false)) w fun t82 w =>
 CondV t82 (
 j_4 x0 x1 w) (
 run1 Tryz.prog Z (eqOp .eql 3 false true x1 (.int .i64 0)) w fun t83 w =>
 CondV t83 (
 run1 Tryz.prog Z (Instr.index 9 x0 (.int .i64 0)) w fun t84 w =>
 run1 Tryz.prog Z (eqOp .eql 5 false true t84 (.int .u8 48)) w fun t85 w =>
 CondV t85 (
 run1 Tryz.prog Z (Builtin.len_ #[9] 3 #[x0]) w fun t86 w =>
 run1 Tryz.prog Z (binOp .geq 3 t86 (.int .i64 3)) w fun t87 w =>
 guardW (t87) true (fun k => k (x0) w) (fun t88 w =>
 guardW (t87) true (fun k => run1 Tryz.prog Z (Instr.index 9 t88 (.int .i64 1)) w k) (fun t89 w =>
 guardW (t87) true (fun k => CallV Tryz.prog Z 154 #[t89] w k) (fun t90 w =>
 guardW (t87) true (fun k => run1 Tryz.prog Z (eqOp .eql 5 false true t90 (.int .u8 98)) w k) (fun t91 w =>
 run1 Tryz.prog Z (pickV t87 t91 (.bool false)) w fun t92 w =>
 CondV t92 (
 run1 Tryz.prog Z (Instr.sliceAt 9 x0 (some (.int .i64 2)) none none) w fun t93 w =>
 j_4 t93 (.int .i64 2) w) (
 run1 Tryz.prog Z (Builtin.len_ #[9] 3 #[x0]) w fun t94 w =>
 run1 Tryz.prog Z (binOp .geq 3 t94 (.int .i64 3)) w fun t95 w =>
 guardW (t95) true (fun k => k (x0) w) (fun t96 w =>
 guardW (t95) true (fun k => run1 Tryz.prog Z (Instr.index 9 t96 (.int .i64 1)) w k) (fun t97 w =>
 guardW (t95) true (fun k => CallV Tryz.prog Z 154 #[t97] w k) (fun t98 w =>
 guardW (t95) true (fun k => run1 Tryz.prog Z (eqOp .eql 5 false true t98 (.int .u8 111)) w k) (fun t99 w =>
 run1 Tryz.prog Z (pickV t95 t99 (.bool false)) w fun t100 w =>
 CondV t100 (
 run1 Tryz.prog Z (Instr.sliceAt 9 x0 (some (.int .i64 2)) none none) w fun t101 w =>
 j_4 t101 (.int .i64 8) w) (
 run1 Tryz.prog Z (Builtin.len_ #[9] 3 #[x0]) w fun t102 w =>
 run1 Tryz.prog Z (binOp .geq 3 t102 (.int .i64 3)) w fun t103 w =>
 guardW (t103) true (fun k => k (x0) w) (fun t104 w =>
 guardW (t103) true (fun k => run1 Tryz.prog Z (Instr.index 9 t104 (.int .i64 1)) w k) (fun t105 w =>
 guardW (t103) true (fun k => CallV Tryz.prog Z 154 #[t105] w k) (fun t106 w =>
 guardW (t103) true (fun k => run1 Tryz.prog Z (eqOp .eql 5 false true t106 (.int .u8 120)) w k) (fun t107 w =>
 run1 Tryz.prog Z (pickV t103 t107 (.bool false)) w fun t108 w =>
 CondV t108 (
 run1 Tryz.prog Z (Instr.sliceAt 9 x0 (some (.int .i64 2)) none none) w fun t109 w =>
 j_4 t109 (.int .i64 16) w) (
 run1 Tryz.prog Z (Instr.sliceAt 9 x0 (some (.int .i64 1)) none none) w fun t110 w =>
 j_4 t110 (.int .i64 8) w)) w) w) w) w)) w) w) w) w)) w) w) w) w) (
 j_4 x0 (.int .i64 10) w)) (
 run1 Tryz.prog Z (Instr.makeInterface 156 (.int .i64 3)) w fun t111 w =>
 Q (Value.tuple #[(.int .u64 0), t111]) w))) w) w)
def f109.an : An := (.sq .leaf (.sq (.sq .leaf (.cn (.sq .leaf .leaf) .leaf)) (.sq .leaf (.sq .leaf (.sj [0, 1] (.bl (.sq .leaf (.cn .leaf (.sq .leaf (.cn (.sq .leaf (.sq .leaf (.cn (.bl (.sq .leaf (.cn (.sq .leaf .leaf) (.sq .leaf (.cn (.sq .leaf .leaf) (.sq .leaf (.cn (.sq .leaf .leaf) (.sq .leaf .leaf)))))))) .leaf))) (.sq .leaf .leaf)))))) (.sj [2] (.sq .leaf (.cn .leaf (.sq .leaf (.cn (.sq .leaf .leaf) .leaf)))) (.sq .leaf (.sj [10] (.sq .leaf (.bl (.sq .leaf (.cn .leaf (.sq .leaf (.cn .leaf .leaf)))))) (.sq .leaf (.sq .leaf (.sq .leaf (.sq (.sq .leaf (.bl (.lp [12, 13, 101] (.sq .leaf (.sq (.cn .leaf .leaf) (.sj [12, 13] (.bl (.sq .leaf (.sq .leaf (.sj [12, 16] (.bl (.sq .leaf (.cn (.sq .leaf .leaf) (.sq .leaf (.cn .leaf (.sq .leaf (.cn .leaf (.sq .leaf .leaf)))))))) (.sq (.sq .leaf (.cn (.sq .leaf .leaf) .leaf)) (.sq (.sq .leaf (.cn (.sq .leaf .leaf) .leaf)) (.sq .leaf (.sq .leaf (.sq (.sq .leaf (.cn (.sq .leaf .leaf) .leaf)) .leaf))))))))) .leaf)))))) (.sq (.sq .leaf (.cn (.sq .leaf .leaf) .leaf)) (.sq .leaf .leaf))))))))))))))
theorem f109.calls {Z : List PanicEntry → World → Prop} {x0 x1 x2 : Value} {w : World} {Q : Value → World → Prop} (h : f109.sh Z x0 x1 x2 w Q) : CallV Tryz.prog Z 109 #[x0, x1, x2] w Q :=
 cl Tryz.func109 f109.an [x0, x1, x2] (by kernel_rfl) (by kernel_rfl) h

def f124.sh (Z : List PanicEntry → World → Prop) (x0 x1 : Value) (w : World) (Q : Value → World → Prop) : Prop :=
 run1 Tryz.prog Z (convert 35 115 x1) w fun t1 w =>
 CallV Tryz.prog Z 165 #[x0, t1, (.int .i64 4)] w fun t2 w =>
 Q (Value.tuple #[]) w
def f124.an : An := .leaf
theorem f124.calls {Z : List PanicEntry → World → Prop} {x0 x1 : Value} {w : World} {Q : Value → World → Prop} (h : f124.sh Z x0 x1 w Q) : CallV Tryz.prog Z 124 #[x0, x1] w Q :=
 cl Tryz.func124 f124.an [x0, x1] (by kernel_rfl) (by kernel_rfl) h

def f125.sh (Z : List PanicEntry → World → Prop) (x0 x1 : Value) (w : World) (Q : Value → World → Prop) : Prop :=
 run1 Tryz.prog Z (convert 50 115 x1) w fun t1 w =>
 CallV Tryz.prog Z 165 #[x0, t1, (.int .i64 1)] w fun t2 w =>
 Q (Value.tuple #[]) w
def f125.an : An := .leaf
theorem f125.calls {Z : List PanicEntry → World → Prop} {x0 x1 : Value} {w : World} {Q : Value → World → Prop} (h : f125.sh Z x0 x1 w Q) : CallV Tryz.prog Z 125 #[x0, x1] w Q :=
 cl Tryz.func125 f125.an [x0, x1] (by kernel_rfl) (by kernel_rfl) h

def f126.sh (Z : List PanicEntry → World → Prop) (x0 x1 : Value) (w : World) (Q : Value → World → Prop) : Prop :=
 run1 Tryz.prog Z (convert 2 115 x1) w fun t1 w =>
 CallV Tryz.prog Z 165 #[x0, t1, (.int .i64 8)] w fun t2 w =>
 Q (Value.tuple #[]) w
def f126.an : An := .leaf
theorem f126.calls {Z : List PanicEntry → World → Prop} {x0 x1 : Value} {w : World} {Q : Value → World → Prop} (h : f126.sh Z x0 x1 w Q) : CallV Tryz.prog Z 126 #[x0, x1] w Q :=
 cl Tryz.func126 f126.an [x0, x1] (by kernel_rfl) (by kernel_rfl) h

def f127.sh (Z : List PanicEntry → World → Prop) (x0 x1 x2 : Value) (w : World) (Q : Value → World → Prop) : Prop :=
 run1 Tryz.prog Z (Instr.box 140 x0) w fun t1 w =>
 run1 Tryz.prog Z (Instr.box 58 x2) w fun t2 w =>
 run1 Tryz.prog Z (Instr.fieldAt 58 t2 0) w fun t3 w =>
 run1 Tryz.prog Z (Instr.loadAt 50 t3) w fun t4 w =>
 CallV Tryz.prog Z 125 #[x1, t4] w fun t5 w =>
 run1 Tryz.prog Z (Instr.loadAt 140 t1) w fun t6 w =>
 run1 Tryz.prog Z (Instr.fieldAt 58 t2 0) w fun t7 w =>
 run1 Tryz.prog Z (Instr.loadAt 50 t7) w fun t8 w =>
 CallV Tryz.prog Z 135 #[t6, t8] w fun t9 w =>
 ∀ j_10 : World → Prop, (∀ w : World, (Env →
 ∀ j_11 : World → Prop, (∀ w : World, (Env →
 ∀ j_12 : World → Prop, (∀ w : World, (Env →
 ∀ j_13 : World → Prop, (∀ w : World, (Env →
 ∀ j_14 : World → Prop, (∀ w : World, (Env →
 ∀ j_15 : World → Prop, (∀ w : World, (Env →
 ∀ j_16 : World → Prop, (∀ w : World, (Env →
 ∀ j_17 : World → Prop, (∀ w : World, (Env →
 run1 Tryz.prog Z (binOp .and 130 t9 (.int .u64 256)) w fun t18 w =>
 run1 Tryz.prog Z (eqOp .neq 130 false true t18 (.int .u64 0)) w fun t19 w =>
 CondV t19 (
 run1 Tryz.prog Z (Instr.fieldAt 58 t2 10) w fun t20 w =>
 run1 Tryz.prog Z (Instr.loadAt 56 t20) w fun t21 w =>
 run1 Tryz.prog Z (Instr.build 140 #[(0, (.bool true))]) w fun t22 w =>
 run1 Tryz.prog Z (Instr.makeFunc (.func 127) #[t22] #[]) w fun t23 w =>
 CallV Tryz.prog Z 174 #[x1, t21, t23] w fun t24 w =>
 Q (Value.tuple #[]) w) (
 Q (Value.tuple #[]) w)) →
 j_17 w) →
 run1 Tryz.prog Z (binOp .and 130 t9 (.int .u64 128)) w fun t25 w =>
 run1 Tryz.prog Z (eqOp .neq 130 false true t25 (.int .u64 0)) w fun t26 w =>
 CondV t26 (
 run1 Tryz.prog Z (Instr.fieldAt 58 t2 9) w fun t27 w =>
 run1 Tryz.prog Z (Instr.loadAt 55 t27) w fun t28 w =>
 CallV Tryz.prog Z 172 #[x1, t28, (.func (.func 173) #[] #[])] w fun t29 w =>
 j_17 w) (
 j_17 w)) →
 j_16 w) →
 run1 Tryz.prog Z (binOp .and 130 t9 (.int .u64 64)) w fun t30 w =>
 run1 Tryz.prog Z (eqOp .neq 130 false true t30 (.int .u64 0)) w fun t31 w =>
 CondV t31 (
 run1 Tryz.prog Z (Instr.fieldAt 58 t2 8) w fun t32 w =>
 run1 Tryz.prog Z (Instr.loadAt 21 t32) w fun t33 w =>
 CallV Tryz.prog Z 170 #[x1, t33] w fun t34 w =>
 j_16 w) (
 j_16 w)) →
 j_15 w) →
 run1 Tryz.prog Z (binOp .and 130 t9 (.int .u64 32)) w fun t35 w =>
 run1 Tryz.prog Z (eqOp .neq 130 false true t35 (.int .u64 0)) w fun t36 w =>
 CondV t36 (
 run1 Tryz.prog Z (Instr.fieldAt 58 t2 7) w fun t37 w =>
 run1 Tryz.prog Z (Instr.loadAt 2 t37) w fun t38 w =>
 CallV Tryz.prog Z 126 #[x1, t38] w fun t39 w =>
 j_15 w) (
 j_15 w)) →
 j_14 w) →
 run1 Tryz.prog Z (binOp .and 130 t9 (.int .u64 16)) w fun t40 w =>
 run1 Tryz.prog Z (eqOp .neq 130 false true t40 (.int .u64 0)) w fun t41 w =>
 CondV t41 (
 run1 Tryz.prog Z (Instr.fieldAt 58 t2 5) w fun t42 w =>
 run1 Tryz.prog Z (Instr.loadAt 4 t42) w fun t43 w =>
 CallV Tryz.prog Z 171 #[x1, t43] w fun t44 w =>
 run1 Tryz.prog Z (Instr.fieldAt 58 t2 6) w fun t45 w =>
 run1 Tryz.prog Z (Instr.loadAt 4 t45) w fun t46 w =>
 CallV Tryz.prog Z 171 #[x1, t46] w fun t47 w =>
 j_14 w) (
 j_14 w)) →
 j_13 w) →
 run1 Tryz.prog Z (binOp .and 130 t9 (.int .u64 8)) w fun t48 w =>
 run1 Tryz.prog Z (eqOp .neq 130 false true t48 (.int .u64 0)) w fun t49 w =>
 CondV t49 (
 run1 Tryz.prog Z (Instr.fieldAt 58 t2 4) w fun t50 w =>
 run1 Tryz.prog Z (Instr.loadAt 21 t50) w fun t51 w =>
 CallV Tryz.prog Z 170 #[x1, t51] w fun t52 w =>
 j_13 w) (
 j_13 w)) →
 j_12 w) →
 run1 Tryz.prog Z (binOp .and 130 t9 (.int .u64 4)) w fun t53 w =>
 run1 Tryz.prog Z (eqOp .neq 130 false true t53 (.int .u64 0)) w fun t54 w =>
 CondV t54 (
 run1 Tryz.prog Z (Instr.fieldAt 58 t2 3) w fun t55 w =>
 run1 Tryz.prog Z (Instr.loadAt 54 t55) w fun t56 w =>
 CallV Tryz.prog Z 168 #[x1, t56, (.func (.func 169) #[] #[])] w fun t57 w =>
 j_12 w) (
 j_12 w)) →
 j_11 w) →
 run1 Tryz.prog Z (binOp .and 130 t9 (.int .u64 2)) w fun t58 w =>
 run1 Tryz.prog Z (eqOp .neq 130 false true t58 (.int .u64 0)) w fun t59 w =>
 CondV t59 (
 run1 Tryz.prog Z (Instr.fieldAt 58 t2 2) w fun t60 w =>
 run1 Tryz.prog Z (Instr.loadAt 53 t60) w fun t61 w =>
 CallV Tryz.prog Z 167 #[x1, t61] w fun t62 w =>
 j_11 w) (
 j_11 w)) →
 j_10 w) →
 run1 Tryz.prog Z (binOp .and 130 t9 (.int .u64 1)) w fun t63 w =>
 run1 Tryz.prog Z (eqOp .neq 130 false true t63 (.int .u64 0)) w fun t64 w =>
 CondV t64 (
 run1 Tryz.prog Z (Instr.fieldAt 58 t2 1) w fun t65 w =>
 run1 Tryz.prog Z (Instr.loadAt 9 t65) w fun t66 w =>
 CallV Tryz.prog Z 166 #[x1, t66] w fun t67 w =>
 j_10 w) (
 j_10 w)
def f127.an : An := (.sq .leaf (.sq .leaf (.sq .leaf (.sj [] (.sq .leaf (.cn .leaf .leaf)) (.sj [] (.sq .leaf (.cn .leaf .leaf)) (.sj [] (.sq .leaf (.cn .leaf .leaf)) (.sj [] (.sq .leaf (.cn .leaf .leaf)) (.sj [] (.sq .leaf (.cn (.sq .leaf .leaf) .leaf)) (.sj [] (.sq .leaf (.cn .leaf .leaf)) (.sj [] (.sq .leaf (.cn .leaf .leaf)) (.sj [] (.sq .leaf (.cn .leaf .leaf)) (.sq .leaf (.cn .leaf .leaf)))))))))))))
theorem f127.calls {Z : List PanicEntry → World → Prop} {x0 x1 x2 : Value} {w : World} {Q : Value → World → Prop} (h : f127.sh Z x0 x1 x2 w Q) : CallV Tryz.prog Z 127 #[x0, x1, x2] w Q :=
 cl Tryz.func127 f127.an [x0, x1, x2] (by kernel_rfl) (by kernel_rfl) h

def f128.sh (Z : List PanicEntry → World → Prop) (x0 : Value) (w : World) (Q : Value → World → Prop) : Prop :=
 run1 Tryz.prog Z (eqOp .eql 171 false true x0 (.pointer none)) w fun t1 w =>
 CondV t1 (
 Q (.slice none 0 0) w) (
 runX Tryz.prog Z (nilChk x0) w fun t2 w =>
 run1 Tryz.prog Z (Instr.fieldAt 173 t2 0) w fun t3 w =>
 run1 Tryz.prog Z (Instr.loadAt 53 t3) w fun t4 w =>
 run1 Tryz.prog Z (Builtin.append_ #[53, 53] 53 #[(.slice none 0 0), t4]) w fun t5 w =>
 Q t5 w)
def f128.an : An := (.sq .leaf (.sq (.sq .leaf (.cn (.sq .leaf .leaf) .leaf)) (.sq .leaf .leaf)))
theorem f128.calls {Z : List PanicEntry → World → Prop} {x0 : Value} {w : World} {Q : Value → World → Prop} (h : f128.sh Z x0 w Q) : CallV Tryz.prog Z 128 #[x0] w Q :=
 cl Tryz.func128 f128.an [x0] (by kernel_rfl) (by kernel_rfl) h

def f129.sh (Z : List PanicEntry → World → Prop) (x0 : Value) (w : World) (Q : Value → World → Prop) : Prop :=
 run1 Tryz.prog Z (Instr.alloc 179 true (.tuple #[])) w fun t1 w =>
 run1 Tryz.prog Z (binOp .shr 35 x0 (.int .u64 24)) w fun t2 w =>
 run1 Tryz.prog Z (convert 35 5 t2) w fun t3 w =>
 run1 Tryz.prog Z (binOp .shr 35 x0 (.int .u64 16)) w fun t4 w =>
 run1 Tryz.prog Z (convert 35 5 t4) w fun t5 w =>
 run1 Tryz.prog Z (binOp .shr 35 x0 (.int .u64 8)) w fun t6 w =>
 run1 Tryz.prog Z (convert 35 5 t6) w fun t7 w =>
 run1 Tryz.prog Z (convert 35 5 x0) w fun t8 w =>
 run1 Tryz.prog Z (Instr.build 179 #[(0, t3), (1, t5), (2, t7), (3, t8)]) w fun t9 w =>
 run0 Tryz.prog Z (Instr.storeAt 179 t1 t9) w fun w =>
 ∃ r_10, (do loadVar 179 (← asAddr t1) : Sem Value).run Tryz.prog w = .ok r_10 w ∧
 Q r_10 w
def f129.an : An := (.sq .leaf (.sq .leaf .leaf))
theorem f129.calls {Z : List PanicEntry → World → Prop} {x0 : Value} {w : World} {Q : Value → World → Prop} (h : f129.sh Z x0 w Q) : CallV Tryz.prog Z 129 #[x0] w Q :=
 cl Tryz.func129 f129.an [x0] (by kernel_rfl) (by kernel_rfl) h

def f130.sh (Z : List PanicEntry → World → Prop) (x0 : Value) (w : World) (Q : Value → World → Prop) : Prop :=
 run1 Tryz.prog Z (Builtin.len_ #[53] 3 #[x0]) w fun t1 w =>
 ∃ J_2 : Nat → Value → Value → Value → World → Prop, (∃ m, J_2 m (.int .u32 1) (.int .u32 0) (.int .i64 0) w) ∧
 ∀ m_2, ∀ t3 : Value, ∀ t4 : Value, ∀ t5 : Value, ∀ w : World, J_2 m_2 t3 t4 t5 w → Env →
 run1 Tryz.prog Z (binOp .lss 3 t5 t1) w fun t6 w =>
 CondV t6 (
 run1 Tryz.prog Z (Instr.indexAt 53 x0 t5) w fun t7 w =>
 run1 Tryz.prog Z (Instr.loadAt 5 t7) w fun t8 w =>
 run1 Tryz.prog Z (convert 5 35 t8) w fun t9 w =>
 run1 Tryz.prog Z (binOp .add 35 t3 t9) w fun t10 w =>
 run1 Tryz.prog Z (binOp .rem 35 t10 (.int .u32 65521)) w fun t11 w =>
 run1 Tryz.prog Z (binOp .add 35 t4 t11) w fun t12 w =>
 run1 Tryz.prog Z (binOp .rem 35 t12 (.int .u32 65521)) w fun t13 w =>
 run1 Tryz.prog Z (binOp .add 3 t5 (.int .i64 1)) w fun t14 w =>
 ∃ n_2, n_2 < m_2 ∧ J_2 n_2 t11 t13 t14 w) (
 run1 Tryz.prog Z (binOp .shl 35 t4 (.int .u64 16)) w fun t15 w =>
 run1 Tryz.prog Z (binOp .or 35 t15 t3) w fun t16 w =>
 Q t16 w)
def f130.an : An := (.sq .leaf (.sq .leaf (.sq (.sq .leaf (.bl (.lp [3, 4, 9] (.sq .leaf (.sq (.cn .leaf .leaf) (.sq (.bl (.sq .leaf (.sq .leaf .leaf))) .leaf)))))) (.sq .leaf .leaf))))
theorem f130.calls {Z : List PanicEntry → World → Prop} {x0 : Value} {w : World} {Q : Value → World → Prop} (h : f130.sh Z x0 w Q) : CallV Tryz.prog Z 130 #[x0] w Q :=
 cl Tryz.func130 f130.an [x0] (by kernel_rfl) (by kernel_rfl) h

def f132.sh (Z : List PanicEntry → World → Prop) (x0 : Value) (w : World) (Q : Value → World → Prop) : Prop :=
 run1 Tryz.prog Z (Builtin.len_ #[53] 3 #[x0]) w fun t1 w =>
 run1 Tryz.prog Z (binOp .leq 3 t1 (.int .i64 8)) w fun t2 w =>
 CondV t2 (
 Q (.slice none 0 0) w) (
 run1 Tryz.prog Z (Instr.sliceAt 53 x0 none (some (.int .i64 4)) none) w fun t3 w =>
 run1 Tryz.prog Z (Instr.arrayAt 179 t3) w fun t4 w =>
 run1 Tryz.prog Z (Instr.loadAt 179 t4) w fun t5 w =>
 CallV Tryz.prog Z 175 #[t5] w fun t6 w =>
 run1 Tryz.prog Z (binOp .lss 3 t6 (.int .i64 1)) w fun t7 w =>
 guardW (t7) false (fun k => k (t6) w) (fun t8 w =>
 guardW (t7) false (fun k => run1 Tryz.prog Z (binOp .gtr 3 t8 (.int .i64 1048576)) w k) (fun t9 w =>
 run1 Tryz.prog Z (pickV t7 (.bool true) t9) w fun t10 w =>
 guardW (t10) false (fun k => k (x0) w) (fun t11 w =>
 guardW (t10) false (fun k => run1 Tryz.prog Z (Builtin.len_ #[53] 3 #[t11]) w k) (fun t12 w =>
 guardW (t10) false (fun k => k (t6) w) (fun t13 w =>
 guardW (t10) false (fun k => run1 Tryz.prog Z (binOp .add 3 (.int .i64 8) t13) w k) (fun t14 w =>
 guardW (t10) false (fun k => run1 Tryz.prog Z (binOp .add 3 t14 (.int .i64 1)) w k) (fun t15 w =>
 guardW (t10) false (fun k => run1 Tryz.prog Z (binOp .lss 3 t12 t15) w k) (fun t16 w =>
 run1 Tryz.prog Z (pickV t10 (.bool true) t16) w fun t17 w =>
 guardW (t17) false (fun k => k (x0) w) (fun t18 w =>
 guardW (t17) false (fun k => k (t6) w) (fun t19 w =>
 guardW (t17) false (fun k => run1 Tryz.prog Z (binOp .add 3 (.int .i64 8) t19) w k) (fun t20 w =>
 guardW (t17) false (fun k => run1 Tryz.prog Z (Instr.indexAt 53 t18 t20) w k) (fun t21 w =>
 guardW (t17) false (fun k => run1 Tryz.prog Z (Instr.loadAt 5 t21) w k) (fun t22 w =>
 guardW (t17) false (fun k => run1 Tryz.prog Z (eqOp .neq 5 false true t22 (.int .u8 66)) w k) (fun t23 w =>
 run1 Tryz.prog Z (pickV t17 (.bool true) t23) w fun t24 w =>
 CondV t24 (
 Q (.slice none 0 0) w) (
 run1 Tryz.prog Z (binOp .add 3 (.int .i64 8) t6) w fun t25 w =>
 run1 Tryz.prog Z (Instr.sliceAt 53 x0 (some (.int .i64 8)) (some t25) none) w fun t26 w =>
 Drawn w fun w =>
 Pure1 Tryz.prog (Instr.sliceAt 53 x0 (some (.int .i64 4)) (some (.int .i64 8)) none) fun t27 =>
 Pure1 Tryz.prog (Instr.arrayAt 179 t27) fun t28 =>
 Read1 Tryz.prog (Instr.loadAt 179 t28) w fun t29 =>
 CallV Tryz.prog Z 130 #[t26] w fun t30 w =>
 Still Tryz.prog (nx (Instr.loadAt 179 t28)) t29 w <|
 CallV Tryz.prog Z 129 #[t30] w fun t31 w =>
 Still Tryz.prog (nx (Instr.loadAt 179 t28)) t29 w <|
 Pure1 Tryz.prog (eqOp .neq 179 false false t29 t31) fun t32 =>
 CondV t32 (
 Q (.slice none 0 0) w) (
 Q t26 w))) w) w) w) w) w) w) w) w) w) w) w) w) w) w)
def f132.an : An := (.sq .leaf (.sq (.sq .leaf (.cn (.sq .leaf .leaf) .leaf)) (.sq .leaf (.sq (.sq .leaf (.cn (.sq .leaf .leaf) .leaf)) (.sq .leaf (.sq (.sq (.dr (pl [0, 4, 8, 13, 16, 22, 26, 28] .fin)) (.cn (.sq .leaf .leaf) .leaf)) (.sq .leaf .leaf)))))))
theorem f132.calls {Z : List PanicEntry → World → Prop} {x0 : Value} {w : World} {Q : Value → World → Prop} (h : f132.sh Z x0 w Q) : CallV Tryz.prog Z 132 #[x0] w Q :=
 cl Tryz.func132 f132.an [x0] (by kernel_rfl) (by kernel_rfl) h

def f133.sh (Z : List PanicEntry → World → Prop) (x0 x1 : Value) (w : World) (Q : Value → World → Prop) : Prop :=
 CallV Tryz.prog Z 176 #[x0, x1] w fun t1 w =>
 run1 Tryz.prog Z (Instr.extract t1 0) w fun t2 w =>
 run1 Tryz.prog Z (Instr.extract t1 1) w fun t3 w =>
 run1 Tryz.prog Z (Op.unary .not t3) w fun t4 w =>
 CondV t4 (
 Q (.int .u64 0) w) (
 run1 Tryz.prog Z (Builtin.len_ #[53] 3 #[t2]) w fun t5 w =>
 ∃ J_6 : Nat → Value → Value → World → Prop, (∃ m, J_6 m (.int .u64 0) (.int .i64 0) w) ∧
 ∀ m_6, ∀ t7 : Value, ∀ t8 : Value, ∀ w : World, J_6 m_6 t7 t8 w → Env →
 run1 Tryz.prog Z (binOp .lss 3 t8 t5) w fun t9 w =>
 CondV t9 (
 run1 Tryz.prog Z (Instr.indexAt 53 t2 t8) w fun t10 w =>
 run1 Tryz.prog Z (Instr.loadAt 5 t10) w fun t11 w =>
 run1 Tryz.prog Z (binOp .shl 115 t7 (.int .u64 8)) w fun t12 w =>
 run1 Tryz.prog Z (convert 5 115 t11) w fun t13 w =>
 run1 Tryz.prog Z (binOp .or 115 t12 t13) w fun t14 w =>
 run1 Tryz.prog Z (binOp .add 3 t8 (.int .i64 1)) w fun t15 w =>
 ∃ n_6, n_6 < m_6 ∧ J_6 n_6 t14 t15 w) (
 runX Tryz.prog Z (nilChk x0) w fun t16 w =>
 run1 Tryz.prog Z (Instr.fieldAt 183 t16 1) w fun t17 w =>
 run1 Tryz.prog Z (Instr.loadAt 53 t17) w fun t18 w =>
 run1 Tryz.prog Z (Instr.sliceAt 53 t18 (some x1) none none) w fun t19 w =>
 runX Tryz.prog Z (nilChk x0) w fun t20 w =>
 run1 Tryz.prog Z (Instr.fieldAt 183 t20 1) w fun t21 w =>
 run0 Tryz.prog Z (Instr.storeAt 53 t21 t19) w fun w =>
 Q t7 w))
def f133.an : An := (.sq .leaf (.sq .leaf (.sq (.sq .leaf (.cn (.sq .leaf .leaf) .leaf)) (.sq .leaf (.sq (.sq .leaf (.bl (.lp [7, 20] (.sq .leaf (.sq (.cn .leaf .leaf) (.sq (.bl (.sq .leaf .leaf)) .leaf)))))) (.sq .leaf (.sq .leaf .leaf)))))))
theorem f133.calls {Z : List PanicEntry → World → Prop} {x0 x1 : Value} {w : World} {Q : Value → World → Prop} (h : f133.sh Z x0 x1 w Q) : CallV Tryz.prog Z 133 #[x0, x1] w Q :=
 cl Tryz.func133 f133.an [x0, x1] (by kernel_rfl) (by kernel_rfl) h

def f134.sh (Z : List PanicEntry → World → Prop) (x0 x1 : Value) (w : World) (Q : Value → World → Prop) : Prop :=
 CallV Tryz.prog Z 145 #[x0] w fun t1 w =>
 CondV t1 (
 runX Tryz.prog Z (nilChk x0) w fun t2 w =>
 run1 Tryz.prog Z (Instr.fieldAt 183 t2 2) w fun t3 w =>
 run0 Tryz.prog Z (Instr.storeAt 25 t3 x1) w fun w =>
 Q (Value.tuple #[]) w) (
 Q (Value.tuple #[]) w)
def f134.an : An := (.sq .leaf (.cn .leaf .leaf))
theorem f134.calls {Z : List PanicEntry → World → Prop} {x0 x1 : Value} {w : World} {Q : Value → World → Prop} (h : f134.sh Z x0 x1 w Q) : CallV Tryz.prog Z 134 #[x0, x1] w Q :=
 cl Tryz.func134 f134.an [x0, x1] (by kernel_rfl) (by kernel_rfl) h

def f135.sh (Z : List PanicEntry → World → Prop) (x0 x1 : Value) (w : World) (Q : Value → World → Prop) : Prop :=
 run1 Tryz.prog Z (Instr.box 140 x0) w fun t1 w =>
 run1 Tryz.prog Z (Instr.fieldAt 140 t1 0) w fun t2 w =>
 run1 Tryz.prog Z (Instr.loadAt 4 t2) w fun t3 w =>
 CondV t3 (
 run1 Tryz.prog Z (Instr.indexAt 195 (.pointer (some ⟨1, 0, none⟩)) x1) w fun t4 w =>
 run1 Tryz.prog Z (Instr.loadAt 130 t4) w fun t5 w =>
 run1 Tryz.prog Z (binOp .andNot 130 t5 (.int .u64 160)) w fun t6 w =>
 Q t6 w) (
 run1 Tryz.prog Z (Instr.indexAt 195 (.pointer (some ⟨1, 0, none⟩)) x1) w fun t7 w =>
 run1 Tryz.prog Z (Instr.loadAt 130 t7) w fun t8 w =>
 Q t8 w)
def f135.an : An := (.sq .leaf (.sq (.sq .leaf (.cn (.sq .leaf .leaf) .leaf)) (.sq .leaf .leaf)))
theorem f135.calls {Z : List PanicEntry → World → Prop} {x0 x1 : Value} {w : World} {Q : Value → World → Prop} (h : f135.sh Z x0 x1 w Q) : CallV Tryz.prog Z 135 #[x0, x1] w Q :=
 cl Tryz.func135 f135.an [x0, x1] (by kernel_rfl) (by kernel_rfl) h

def f136.sh (Z : List PanicEntry → World → Prop) (x0 x1 : Value) (w : World) (Q : Value → World → Prop) : Prop :=
 CallV Tryz.prog Z 177 #[x0, x1] w fun t1 w =>
 run1 Tryz.prog Z (convert 53 9 t1) w fun t2 w =>
 Q t2 w
def f136.an : An := (.sq .leaf (.sq .leaf .leaf))
theorem f136.calls {Z : List PanicEntry → World → Prop} {x0 x1 : Value} {w : World} {Q : Value → World → Prop} (h : f136.sh Z x0 x1 w Q) : CallV Tryz.prog Z 136 #[x0, x1] w Q :=
 cl Tryz.func136 f136.an [x0, x1] (by kernel_rfl) (by kernel_rfl) h

def f137.sh (Z : List PanicEntry → World → Prop) (x0 x1 : Value) (w : World) (Q : Value → World → Prop) : Prop :=
 CallV Tryz.prog Z 177 #[x0, x1] w fun t1 w =>
 run1 Tryz.prog Z (Builtin.append_ #[53, 53] 53 #[(.slice none 0 0), t1]) w fun t2 w =>
 Q t2 w
def f137.an : An := (.sq .leaf (.sq .leaf .leaf))
theorem f137.calls {Z : List PanicEntry → World → Prop} {x0 x1 : Value} {w : World} {Q : Value → World → Prop} (h : f137.sh Z x0 x1 w Q) : CallV Tryz.prog Z 137 #[x0, x1] w Q :=
 cl Tryz.func137 f137.an [x0, x1] (by kernel_rfl) (by kernel_rfl) h

def f138.sh (Z : List PanicEntry → World → Prop) (x0 x1 x2 : Value) (w : World) (Q : Value → World → Prop) : Prop :=
 CallV Tryz.prog Z 178 #[x0] w fun t1 w =>
 CallV Tryz.prog Z 140 #[x0] w fun t2 w =>
 run1 Tryz.prog Z (convert 21 3 t2) w fun t3 w =>
 CallV Tryz.prog Z 145 #[x0] w fun t4 w =>
 run1 Tryz.prog Z (Op.unary .not t4) w fun t5 w =>
 CondV t5 (
 Q (.slice none 0 0) w) (
 run1 Tryz.prog Z (binOp .lss 3 t3 (.int .i64 0)) w fun t6 w =>
 guardW (t6) false (fun k => k (t3) w) (fun t7 w =>
 guardW (t6) false (fun k => k (x1) w) (fun t8 w =>
 guardW (t6) false (fun k => run1 Tryz.prog Z (binOp .gtr 3 t7 t8) w k) (fun t9 w =>
 run1 Tryz.prog Z (pickV t6 (.bool true) t9) w fun t10 w =>
 CondV t10 (
 CallV Tryz.prog Z 179 #[x0, t1, (.int .i64 11)] w fun t11 w =>
 Q (.slice none 0 0) w) (
 runX Tryz.prog Z (nilChk x0) w fun t12 w =>
 run1 Tryz.prog Z (Instr.fieldAt 183 t12 1) w fun t13 w =>
 run1 Tryz.prog Z (Instr.loadAt 53 t13) w fun t14 w =>
 run1 Tryz.prog Z (Builtin.len_ #[53] 3 #[t14]) w fun t15 w =>
 run1 Tryz.prog Z (binOp .gtr 3 t3 t15) w fun t16 w =>
 CondV t16 (
 CallV Tryz.prog Z 179 #[x0, t1, (.int .i64 10)] w fun t17 w =>
 Q (.slice none 0 0) w) (
 run1 Tryz.prog Z (eqOp .eql 189 false true x2 .nilFunc) w fun t18 w =>
 CondV t18 (
 run1 Tryz.prog Z (Instr.makeSlice 54 t3 t3) w fun t19 w =>
 Q t19 w) (
 ∃ J_20 : Nat → Value → Value → World → Prop, (∃ m, J_20 m (.slice none 0 0) (.int .i64 0) w) ∧
 ∀ m_20, ∀ t21 : Value, ∀ t22 : Value, ∀ w : World, J_20 m_20 t21 t22 w → Env →
 run1 Tryz.prog Z (binOp .lss 3 t22 t3) w fun t23 w =>
 CondV t23 (
 runX Tryz.prog Z (callVal x2 #[x0]) w fun t24 w =>
 run1 Tryz.prog Z (Instr.alloc 146 true (.tuple #[])) w fun t25 w =>
 run0 Tryz.prog Z (Instr.storeAt 146 t25 t24) w fun w =>
 CallV Tryz.prog Z 145 #[x0] w fun t26 w =>
 run1 Tryz.prog Z (Op.unary .not t26) w fun t27 w =>
 CondV t27 (
 Q (.slice none 0 0) w) (
 run1 Tryz.prog Z (Instr.loadAt 146 t25) w fun t28 w =>
 run1 Tryz.prog Z (Instr.buildSlice 54 1 #[(0, t28)]) w fun t29 w =>
 run1 Tryz.prog Z (Builtin.append_ #[54, 54] 54 #[t21, t29]) w fun t30 w =>
 run1 Tryz.prog Z (binOp .add 3 t22 (.int .i64 1)) w fun t31 w =>
 ∃ n_20, n_20 < m_20 ∧ J_20 n_20 t30 t31 w)) (
 Q t21 w))))) w) w) w)
def f138.an : An := (.sq .leaf (.sq .leaf (.sq .leaf (.sq (.sq .leaf (.cn (.sq .leaf .leaf) .leaf)) (.sq (.bl (.sq .leaf (.cn (.sq .leaf (.sq .leaf .leaf)) (.sq .leaf (.cn (.sq .leaf (.sq .leaf .leaf)) .leaf))))) (.sq (.sq .leaf (.cn (.sq .leaf .leaf) .leaf)) (.sq .leaf (.sq (.sq .leaf (.bl (.lp [9, 46] (.sq .leaf (.sq (.cn .leaf .leaf) (.sq (.bl (.sq .leaf (.sq (.sq .leaf (.cn (.sq .leaf .leaf) .leaf)) .leaf))) .leaf)))))) (.sq .leaf .leaf)))))))))
theorem f138.calls {Z : List PanicEntry → World → Prop} {x0 x1 x2 : Value} {w : World} {Q : Value → World → Prop} (h : f138.sh Z x0 x1 x2 w Q) : CallV Tryz.prog Z 138 #[x0, x1, x2] w Q :=
 cl Tryz.func138 f138.an [x0, x1, x2] (by kernel_rfl) (by kernel_rfl) h

def f139.sh (Z : List PanicEntry → World → Prop) (x0 : Value) (w : World) (Q : Value → World → Prop) : Prop :=
 run1 Tryz.prog Z (Instr.alloc 146 true (.tuple #[])) w fun t1 w =>
 CallV Tryz.prog Z 90 #[x0] w fun t2 w =>
 CallV Tryz.prog Z 143 #[x0] w fun t3 w =>
 run1 Tryz.prog Z (Instr.build 146 #[(0, t2), (1, t3)]) w fun t4 w =>
 run0 Tryz.prog Z (Instr.storeAt 146 t1 t4) w fun w =>
 ∃ r_5, (do loadVar 146 (← asAddr t1) : Sem Value).run Tryz.prog w = .ok r_5 w ∧
 Q r_5 w
def f139.an : An := (.sq .leaf (.sq .leaf (.sq .leaf .leaf)))
theorem f139.calls {Z : List PanicEntry → World → Prop} {x0 : Value} {w : World} {Q : Value → World → Prop} (h : f139.sh Z x0 w Q) : CallV Tryz.prog Z 139 #[x0] w Q :=
 cl Tryz.func139 f139.an [x0] (by kernel_rfl) (by kernel_rfl) h

def f140.sh (Z : List PanicEntry → World → Prop) (x0 : Value) (w : World) (Q : Value → World → Prop) : Prop :=
 CallV Tryz.prog Z 133 #[x0, (.int .i64 4)] w fun t1 w =>
 run1 Tryz.prog Z (convert 115 21 t1) w fun t2 w =>
 Q t2 w
def f140.an : An := (.sq .leaf (.sq .leaf .leaf))
theorem f140.calls {Z : List PanicEntry → World → Prop} {x0 : Value} {w : World} {Q : Value → World → Prop} (h : f140.sh Z x0 w Q) : CallV Tryz.prog Z 140 #[x0] w Q :=
 cl Tryz.func140 f140.an [x0] (by kernel_rfl) (by kernel_rfl) h

def f141.sh (Z : List PanicEntry → World → Prop) (x0 : Value) (w : World) (Q : Value → World → Prop) : Prop :=
 CallV Tryz.prog Z 176 #[x0, (.int .i64 1)] w fun t1 w =>
 run1 Tryz.prog Z (Instr.extract t1 0) w fun t2 w =>
 run1 Tryz.prog Z (Instr.extract t1 1) w fun t3 w =>
 run1 Tryz.prog Z (Op.unary .not t3) w fun t4 w =>
 CondV t4 (
 Q (.bool false) w) (
 run1 Tryz.prog Z (Instr.indexAt 53 t2 (.int .i64 0)) w fun t5 w =>
 run1 Tryz.prog Z (Instr.loadAt 5 t5) w fun t6 w =>
 run1 Tryz.prog Z (binOp .gtr 5 t6 (.int .u8 1)) w fun t7 w =>
 CondV t7 (
 runX Tryz.prog Z (nilChk x0) w fun t8 w =>
 run1 Tryz.prog Z (Instr.fieldAt 183 t8 2) w fun t9 w =>
 run0 Tryz.prog Z (Instr.storeAt 25 t9 (.int .i64 12)) w fun w =>
 Q (.bool false) w) (
 runX Tryz.prog Z (nilChk x0) w fun t10 w =>
 run1 Tryz.prog Z (Instr.fieldAt 183 t10 1) w fun t11 w =>
 run1 Tryz.prog Z (Instr.loadAt 53 t11) w fun t12 w =>
 run1 Tryz.prog Z (Instr.sliceAt 53 t12 (some (.int .i64 1)) none none) w fun t13 w =>
 runX Tryz.prog Z (nilChk x0) w fun t14 w =>
 run1 Tryz.prog Z (Instr.fieldAt 183 t14 1) w fun t15 w =>
 run0 Tryz.prog Z (Instr.storeAt 53 t15 t13) w fun w =>
 run1 Tryz.prog Z (Instr.indexAt 53 t2 (.int .i64 0)) w fun t16 w =>
 run1 Tryz.prog Z (Instr.loadAt 5 t16) w fun t17 w =>
 run1 Tryz.prog Z (eqOp .eql 5 false true t17 (.int .u8 1)) w fun t18 w =>
 Q t18 w))
def f141.an : An := (.sq .leaf (.sq .leaf (.sq (.sq .leaf (.cn (.sq .leaf .leaf) .leaf)) (.sq (.sq .leaf (.cn (.sq .leaf (.sq .leaf .leaf)) .leaf)) (.sq .leaf (.sq .leaf .leaf))))))
theorem f141.calls {Z : List PanicEntry → World → Prop} {x0 : Value} {w : World} {Q : Value → World → Prop} (h : f141.sh Z x0 w Q) : CallV Tryz.prog Z 141 #[x0] w Q :=
 cl Tryz.func141 f141.an [x0] (by kernel_rfl) (by kernel_rfl) h

def f142.sh (Z : List PanicEntry → World → Prop) (x0 x1 x2 : Value) (w : World) (Q : Value → World → Prop) : Prop :=
 CallV Tryz.prog Z 178 #[x0] w fun t1 w =>
 CallV Tryz.prog Z 140 #[x0] w fun t2 w =>
 run1 Tryz.prog Z (convert 21 3 t2) w fun t3 w =>
 CallV Tryz.prog Z 145 #[x0] w fun t4 w =>
 run1 Tryz.prog Z (Op.unary .not t4) w fun t5 w =>
 CondV t5 (
 Q (.slice none 0 0) w) (
 run1 Tryz.prog Z (binOp .lss 3 t3 (.int .i64 0)) w fun t6 w =>
 guardW (t6) false (fun k => k (t3) w) (fun t7 w =>
 guardW (t6) false (fun k => k (x1) w) (fun t8 w =>
 guardW (t6) false (fun k => run1 Tryz.prog Z (binOp .gtr 3 t7 t8) w k) (fun t9 w =>
 run1 Tryz.prog Z (pickV t6 (.bool true) t9) w fun t10 w =>
 CondV t10 (
 CallV Tryz.prog Z 179 #[x0, t1, (.int .i64 11)] w fun t11 w =>
 Q (.slice none 0 0) w) (
 runX Tryz.prog Z (nilChk x0) w fun t12 w =>
 run1 Tryz.prog Z (Instr.fieldAt 183 t12 1) w fun t13 w =>
 run1 Tryz.prog Z (Instr.loadAt 53 t13) w fun t14 w =>
 run1 Tryz.prog Z (Builtin.len_ #[53] 3 #[t14]) w fun t15 w =>
 run1 Tryz.prog Z (binOp .gtr 3 t3 t15) w fun t16 w =>
 CondV t16 (
 CallV Tryz.prog Z 179 #[x0, t1, (.int .i64 10)] w fun t17 w =>
 Q (.slice none 0 0) w) (
 run1 Tryz.prog Z (eqOp .eql 192 false true x2 .nilFunc) w fun t18 w =>
 CondV t18 (
 run1 Tryz.prog Z (Instr.makeSlice 55 t3 t3) w fun t19 w =>
 Q t19 w) (
 ∃ J_20 : Nat → Value → Value → World → Prop, (∃ m, J_20 m (.slice none 0 0) (.int .i64 0) w) ∧
 ∀ m_20, ∀ t21 : Value, ∀ t22 : Value, ∀ w : World, J_20 m_20 t21 t22 w → Env →
 run1 Tryz.prog Z (binOp .lss 3 t22 t3) w fun t23 w =>
 CondV t23 (
 runX Tryz.prog Z (callVal x2 #[x0]) w fun t24 w =>
 run1 Tryz.prog Z (Instr.alloc 144 true (.tuple #[])) w fun t25 w =>
 run0 Tryz.prog Z (Instr.storeAt 144 t25 t24) w fun w =>
 CallV Tryz.prog Z 145 #[x0] w fun t26 w =>
 run1 Tryz.prog Z (Op.unary .not t26) w fun t27 w =>
 CondV t27 (
 Q (.slice none 0 0) w) (
 run1 Tryz.prog Z (Instr.loadAt 144 t25) w fun t28 w =>
 run1 Tryz.prog Z (Instr.buildSlice 55 1 #[(0, t28)]) w fun t29 w =>
 run1 Tryz.prog Z (Builtin.append_ #[55, 55] 55 #[t21, t29]) w fun t30 w =>
 run1 Tryz.prog Z (binOp .add 3 t22 (.int .i64 1)) w fun t31 w =>
 ∃ n_20, n_20 < m_20 ∧ J_20 n_20 t30 t31 w)) (
 Q t21 w))))) w) w) w)
def f142.an : An := (.sq .leaf (.sq .leaf (.sq .leaf (.sq (.sq .leaf (.cn (.sq .leaf .leaf) .leaf)) (.sq (.bl (.sq .leaf (.cn (.sq .leaf (.sq .leaf .leaf)) (.sq .leaf (.cn (.sq .leaf (.sq .leaf .leaf)) .leaf))))) (.sq (.sq .leaf (.cn (.sq .leaf .leaf) .leaf)) (.sq .leaf (.sq (.sq .leaf (.bl (.lp [9, 46] (.sq .leaf (.sq (.cn .leaf .leaf) (.sq (.bl (.sq .leaf (.sq (.sq .leaf (.cn (.sq .leaf .leaf) .leaf)) .leaf))) .leaf)))))) (.sq .leaf .leaf)))))))))
theorem f142.calls {Z : List PanicEntry → World → Prop} {x0 x1 x2 : Value} {w : World} {Q : Value → World → Prop} (h : f142.sh Z x0 x1 x2 w Q) : CallV Tryz.prog Z 142 #[x0, x1, x2] w Q :=
 cl Tryz.func142 f142.an [x0, x1, x2] (by kernel_rfl) (by kernel_rfl) h

def f143.sh (Z : List PanicEntry → World → Prop) (x0 : Value) (w : World) (Q : Value → World → Prop) : Prop :=
 run1 Tryz.prog Z (Instr.alloc 144 true (.tuple #[])) w fun t1 w =>
 CallV Tryz.prog Z 136 #[x0, (.int .i64 24)] w fun t2 w =>
 CallV Tryz.prog Z 136 #[x0, (.int .i64 24)] w fun t3 w =>
 run1 Tryz.prog Z (Instr.build 144 #[(0, t2), (1, t3)]) w fun t4 w =>
 run0 Tryz.prog Z (Instr.storeAt 144 t1 t4) w fun w =>
 ∃ r_5, (do loadVar 144 (← asAddr t1) : Sem Value).run Tryz.prog w = .ok r_5 w ∧
 Q r_5 w
def f143.an : An := (.sq .leaf (.sq .leaf (.sq .leaf .leaf)))
theorem f143.calls {Z : List PanicEntry → World → Prop} {x0 : Value} {w : World} {Q : Value → World → Prop} (h : f143.sh Z x0 w Q) : CallV Tryz.prog Z 143 #[x0] w Q :=
 cl Tryz.func143 f143.an [x0] (by kernel_rfl) (by kernel_rfl) h

def f144.sh (Z : List PanicEntry → World → Prop) (x0 x1 x2 : Value) (w : World) (Q : Value → World → Prop) : Prop :=
 CallV Tryz.prog Z 178 #[x0] w fun t1 w =>
 CallV Tryz.prog Z 140 #[x0] w fun t2 w =>
 run1 Tryz.prog Z (convert 21 3 t2) w fun t3 w =>
 CallV Tryz.prog Z 145 #[x0] w fun t4 w =>
 run1 Tryz.prog Z (Op.unary .not t4) w fun t5 w =>
 CondV t5 (
 Q (.slice none 0 0) w) (
 run1 Tryz.prog Z (binOp .lss 3 t3 (.int .i64 0)) w fun t6 w =>
 guardW (t6) false (fun k => k (t3) w) (fun t7 w =>
 guardW (t6) false (fun k => k (x1) w) (fun t8 w =>
 guardW (t6) false (fun k => run1 Tryz.prog Z (binOp .gtr 3 t7 t8) w k) (fun t9 w =>
 run1 Tryz.prog Z (pickV t6 (.bool true) t9) w fun t10 w =>
 CondV t10 (
 CallV Tryz.prog Z 179 #[x0, t1, (.int .i64 11)] w fun t11 w =>
 Q (.slice none 0 0) w) (
 runX Tryz.prog Z (nilChk x0) w fun t12 w =>
 run1 Tryz.prog Z (Instr.fieldAt 183 t12 1) w fun t13 w =>
 run1 Tryz.prog Z (Instr.loadAt 53 t13) w fun t14 w =>
 run1 Tryz.prog Z (Builtin.len_ #[53] 3 #[t14]) w fun t15 w =>
 run1 Tryz.prog Z (binOp .gtr 3 t3 t15) w fun t16 w =>
 CondV t16 (
 CallV Tryz.prog Z 179 #[x0, t1, (.int .i64 10)] w fun t17 w =>
 Q (.slice none 0 0) w) (
 run1 Tryz.prog Z (eqOp .eql 141 false true x2 .nilFunc) w fun t18 w =>
 CondV t18 (
 run1 Tryz.prog Z (Instr.makeSlice 56 t3 t3) w fun t19 w =>
 Q t19 w) (
 ∃ J_20 : Nat → Value → Value → World → Prop, (∃ m, J_20 m (.slice none 0 0) (.int .i64 0) w) ∧
 ∀ m_20, ∀ t21 : Value, ∀ t22 : Value, ∀ w : World, J_20 m_20 t21 t22 w → Env →
 run1 Tryz.prog Z (binOp .lss 3 t22 t3) w fun t23 w =>
 CondV t23 (
 runX Tryz.prog Z (callVal x2 #[x0]) w fun t24 w =>
 run1 Tryz.prog Z (Instr.alloc 58 true (.tuple #[])) w fun t25 w =>
 run0 Tryz.prog Z (Instr.storeAt 58 t25 t24) w fun w =>
 CallV Tryz.prog Z 145 #[x0] w fun t26 w =>
 run1 Tryz.prog Z (Op.unary .not t26) w fun t27 w =>
 CondV t27 (
 Q (.slice none 0 0) w) (
 run1 Tryz.prog Z (Instr.loadAt 58 t25) w fun t28 w =>
 run1 Tryz.prog Z (Instr.buildSlice 56 1 #[(0, t28)]) w fun t29 w =>
 run1 Tryz.prog Z (Builtin.append_ #[56, 56] 56 #[t21, t29]) w fun t30 w =>
 run1 Tryz.prog Z (binOp .add 3 t22 (.int .i64 1)) w fun t31 w =>
 ∃ n_20, n_20 < m_20 ∧ J_20 n_20 t30 t31 w)) (
 Q t21 w))))) w) w) w)
def f144.an : An := (.sq .leaf (.sq .leaf (.sq .leaf (.sq (.sq .leaf (.cn (.sq .leaf .leaf) .leaf)) (.sq (.bl (.sq .leaf (.cn (.sq .leaf (.sq .leaf .leaf)) (.sq .leaf (.cn (.sq .leaf (.sq .leaf .leaf)) .leaf))))) (.sq (.sq .leaf (.cn (.sq .leaf .leaf) .leaf)) (.sq .leaf (.sq (.sq .leaf (.bl (.lp [9, 46] (.sq .leaf (.sq (.cn .leaf .leaf) (.sq (.bl (.sq .leaf (.sq (.sq .leaf (.cn (.sq .leaf .leaf) .leaf)) .leaf))) .leaf)))))) (.sq .leaf .leaf)))))))))
theorem f144.calls {Z : List PanicEntry → World → Prop} {x0 x1 x2 : Value} {w : World} {Q : Value → World → Prop} (h : f144.sh Z x0 x1 x2 w Q) : CallV Tryz.prog Z 144 #[x0, x1, x2] w Q :=
 cl Tryz.func144 f144.an [x0, x1, x2] (by kernel_rfl) (by kernel_rfl) h

def f145.sh (Z : List PanicEntry → World → Prop) (x0 : Value) (w : World) (Q : Value → World → Prop) : Prop :=
 CallV Tryz.prog Z 180 #[x0] w fun t1 w =>
 run1 Tryz.prog Z (Op.unary .not t1) w fun t2 w =>
 guardW (t2) true (fun k => k (x0) w) (fun t3 w =>
 guardW (t2) true (fun k => runX Tryz.prog Z (nilChk t3) w k) (fun t4 w =>
 guardW (t2) true (fun k => run1 Tryz.prog Z (Instr.fieldAt 183 t4 2) w k) (fun t5 w =>
 guardW (t2) true (fun k => run1 Tryz.prog Z (Instr.loadAt 25 t5) w k) (fun t6 w =>
 guardW (t2) true (fun k => run1 Tryz.prog Z (eqOp .eql 25 false true t6 (.int .i64 0)) w k) (fun t7 w =>
 run1 Tryz.prog Z (pickV t2 t7 (.bool false)) w fun t8 w =>
 Q t8 w) w) w) w) w) w
def f145.an : An := (.sq .leaf (.sq .leaf .leaf))
theorem f145.calls {Z : List PanicEntry → World → Prop} {x0 : Value} {w : World} {Q : Value → World → Prop} (h : f145.sh Z x0 w Q) : CallV Tryz.prog Z 145 #[x0] w Q :=
 cl Tryz.func145 f145.an [x0] (by kernel_rfl) (by kernel_rfl) h

def f146.sh (Z : List PanicEntry → World → Prop) (x0 : Value) (w : World) (Q : Value → World → Prop) : Prop :=
 CallV Tryz.prog Z 180 #[x0] w fun t1 w =>
 CondV t1 (
 Q (.int .i64 1) w) (
 runX Tryz.prog Z (nilChk x0) w fun t2 w =>
 run1 Tryz.prog Z (Instr.fieldAt 183 t2 2) w fun t3 w =>
 run1 Tryz.prog Z (Instr.loadAt 25 t3) w fun t4 w =>
 Q t4 w)
def f146.an : An := (.sq .leaf (.sq (.sq .leaf (.cn (.sq .leaf .leaf) .leaf)) (.sq .leaf .leaf)))
theorem f146.calls {Z : List PanicEntry → World → Prop} {x0 : Value} {w : World} {Q : Value → World → Prop} (h : f146.sh Z x0 w Q) : CallV Tryz.prog Z 146 #[x0] w Q :=
 cl Tryz.func146 f146.an [x0] (by kernel_rfl) (by kernel_rfl) h

def f148.sh (Z : List PanicEntry → World → Prop) (x0 : Value) (w : World) (Q : Value → World → Prop) : Prop :=
 run1 Tryz.prog Z (eqOp .eql 115 false true x0 (.int .u64 0)) w fun t1 w =>
 CondV t1 (
 Q (.int .i64 64) w) (
 run1 Tryz.prog Z (Op.unary .neg x0) w fun t2 w =>
 run1 Tryz.prog Z (binOp .and 115 x0 t2) w fun t3 w =>
 run1 Tryz.prog Z (binOp .mul 115 t3 (.int .u64 285870213051353865)) w fun t4 w =>
 run1 Tryz.prog Z (binOp .shr 115 t4 (.int .u64 58)) w fun t5 w =>
 run1 Tryz.prog Z (Instr.indexAt 225 (.pointer (some ⟨5, 0, none⟩)) t5) w fun t6 w =>
 run1 Tryz.prog Z (Instr.loadAt 5 t6) w fun t7 w =>
 run1 Tryz.prog Z (convert 5 3 t7) w fun t8 w =>
 Q t8 w)
def f148.an : An := (.sq .leaf (.sq (.sq .leaf (.cn (.sq .leaf .leaf) .leaf)) (.sq .leaf .leaf)))
theorem f148.calls {Z : List PanicEntry → World → Prop} {x0 : Value} {w : World} {Q : Value → World → Prop} (h : f148.sh Z x0 w Q) : CallV Tryz.prog Z 148 #[x0] w Q :=
 cl Tryz.func148 f148.an [x0] (by kernel_rfl) (by kernel_rfl) h

def f150.sh (Z : List PanicEntry → World → Prop) (x0 x1 : Value) (w : World) (Q : Value → World → Prop) : Prop :=
 run1 Tryz.prog Z (Instr.loadAt 130 x1) w fun t1 w =>
 run1 Tryz.prog Z (binOp .and 130 t1 x0) w fun t2 w =>
 run1 Tryz.prog Z (eqOp .neq 130 false true t2 (.int .u64 0)) w fun t3 w =>
 Q t3 w
def f150.an : An := (.sq .leaf (.sq .leaf .leaf))
theorem f150.calls {Z : List PanicEntry → World → Prop} {x0 x1 : Value} {w : World} {Q : Value → World → Prop} (h : f150.sh Z x0 x1 w Q) : CallV Tryz.prog Z 150 #[x0, x1] w Q :=
 cl Tryz.func150 f150.an [x0, x1] (by kernel_rfl) (by kernel_rfl) h

def f151.sh (Z : List PanicEntry → World → Prop) (x0 : Value) (w : World) (Q : Value → World → Prop) : Prop :=
 run1 Tryz.prog Z (Instr.box 144 x0) w fun t1 w =>
 run1 Tryz.prog Z (Instr.fieldAt 144 t1 0) w fun t2 w =>
 run1 Tryz.prog Z (Instr.loadAt 9 t2) w fun t3 w =>
 run1 Tryz.prog Z (Builtin.len_ #[9] 3 #[t3]) w fun t4 w =>
 run1 Tryz.prog Z (binOp .leq 3 t4 (.int .i64 24)) w fun t5 w =>
 guardW (t5) true (fun k => run1 Tryz.prog Z (Instr.fieldAt 144 t1 1) w k) (fun t6 w =>
 guardW (t5) true (fun k => run1 Tryz.prog Z (Instr.loadAt 9 t6) w k) (fun t7 w =>
 guardW (t5) true (fun k => run1 Tryz.prog Z (Builtin.len_ #[9] 3 #[t7]) w k) (fun t8 w =>
 guardW (t5) true (fun k => run1 Tryz.prog Z (binOp .leq 3 t8 (.int .i64 24)) w k) (fun t9 w =>
 run1 Tryz.prog Z (pickV t5 t9 (.bool false)) w fun t10 w =>
 Q t10 w) w) w) w) w
def f151.an : An := (.sq .leaf (.sq .leaf .leaf))
theorem f151.calls {Z : List PanicEntry → World → Prop} {x0 : Value} {w : World} {Q : Value → World → Prop} (h : f151.sh Z x0 w Q) : CallV Tryz.prog Z 151 #[x0] w Q :=
 cl Tryz.func151 f151.an [x0] (by kernel_rfl) (by kernel_rfl) h

def f152.sh (Z : List PanicEntry → World → Prop) (x0 x1 : Value) (w : World) (Q : Value → World → Prop) : Prop :=
 CallV Tryz.prog Z 181 #[x0, x1] w fun t1 w =>
 run1 Tryz.prog Z (binOp .geq 3 t1 (.int .i64 0)) w fun t2 w =>
 Q t2 w
def f152.an : An := (.sq .leaf (.sq .leaf .leaf))
theorem f152.calls {Z : List PanicEntry → World → Prop} {x0 x1 : Value} {w : World} {Q : Value → World → Prop} (h : f152.sh Z x0 x1 w Q) : CallV Tryz.prog Z 152 #[x0, x1] w Q :=
 cl Tryz.func152 f152.an [x0, x1] (by kernel_rfl) (by kernel_rfl) h

def f153.sh (Z : List PanicEntry → World → Prop) (x0 : Value) (w : World) (Q : Value → World → Prop) : Prop :=
 run1 Tryz.prog Z (Instr.box 144 x0) w fun t1 w =>
 run1 Tryz.prog Z (Instr.loadAt 144 t1) w fun t2 w =>
 CallV Tryz.prog Z 151 #[t2] w fun t3 w =>
 run1 Tryz.prog Z (Op.unary .not t3) w fun t4 w =>
 Q t4 w
def f153.an : An := (.sq .leaf (.sq .leaf .leaf))
theorem f153.calls {Z : List PanicEntry → World → Prop} {x0 : Value} {w : World} {Q : Value → World → Prop} (h : f153.sh Z x0 w Q) : CallV Tryz.prog Z 153 #[x0] w Q :=
 cl Tryz.func153 f153.an [x0] (by kernel_rfl) (by kernel_rfl) h

def f154.sh (Z : List PanicEntry → World → Prop) (x0 : Value) (w : World) (Q : Value → World → Prop) : Prop :=
 run1 Tryz.prog Z (binOp .or 5 x0 (.int .u8 32)) w fun t1 w =>
 Q t1 w
def f154.an : An := (.sq .leaf (.sq .leaf .leaf))
theorem f154.calls {Z : List PanicEntry → World → Prop} {x0 : Value} {w : World} {Q : Value → World → Prop} (h : f154.sh Z x0 w Q) : CallV Tryz.prog Z 154 #[x0] w Q :=
 cl Tryz.func154 f154.an [x0] (by kernel_rfl) (by kernel_rfl) h

def f165.sh (Z : List PanicEntry → World → Prop) (x0 x1 x2 : Value) (w : World) (Q : Value → World → Prop) : Prop :=
 run1 Tryz.prog Z (eqOp .eql 171 false true x0 (.pointer none)) w fun t1 w =>
 CondV t1 (
 Q (Value.tuple #[]) w) (
 run1 Tryz.prog Z (binOp .sub 3 x2 (.int .i64 1)) w fun t2 w =>
 ∃ J_3 : Nat → Value → World → Prop, (∃ m, J_3 m t2 w) ∧
 ∀ m_3, ∀ t4 : Value, ∀ w : World, J_3 m_3 t4 w → Env →
 run1 Tryz.prog Z (binOp .geq 3 t4 (.int .i64 0)) w fun t5 w =>
 CondV t5 (
 Drawn w fun w =>
 PureV Tryz.prog (nilChk x0) fun t6 =>
 Pure1 Tryz.prog (Instr.fieldAt 173 t6 0) fun t7 =>
 Read1 Tryz.prog (Instr.loadAt 53 t7) w fun t8 =>
 Pure1 Tryz.prog (binOp .mul 3 (.int .i64 8) t4) fun t9 =>
 Pure1 Tryz.prog (binOp .shr 115 x1 t9) fun t10 =>
 Pure1 Tryz.prog (convert 115 5 t10) fun t11 =>
 run1 Tryz.prog Z (Instr.buildSlice 53 1 #[(0, t11)]) w fun t12 w =>
 Still Tryz.prog (nx (Instr.loadAt 53 t7)) t8 w <|
 run1 Tryz.prog Z (Builtin.append_ #[53, 53] 53 #[t8, t12]) w fun t13 w =>
 PureV Tryz.prog (nilChk x0) fun t14 =>
 Pure1 Tryz.prog (Instr.fieldAt 173 t14 0) fun t15 =>
 run0 Tryz.prog Z (Instr.storeAt 53 t15 t13) w fun w =>
 run1 Tryz.prog Z (binOp .sub 3 t4 (.int .i64 1)) w fun t16 w =>
 ∃ n_3, n_3 < m_3 ∧ J_3 n_3 t16 w) (
 Q (Value.tuple #[]) w))
def f165.an : An := (.sq (.sq .leaf (.cn .leaf .leaf)) (.sq .leaf (.bl (.lp [6] (.sq (.sq .leaf (.cn .leaf .leaf)) (.sq (.bl (.dr (pl [0, 4, 8, 12, 17, 20, 24, 28, 32, 36, 42, 46, 48, 52, 58] .fin))) .leaf))))))
theorem f165.calls {Z : List PanicEntry → World → Prop} {x0 x1 x2 : Value} {w : World} {Q : Value → World → Prop} (h : f165.sh Z x0 x1 x2 w Q) : CallV Tryz.prog Z 165 #[x0, x1, x2] w Q :=
 cl Tryz.func165 f165.an [x0, x1, x2] (by kernel_rfl) (by kernel_rfl) h

def f166.sh (Z : List PanicEntry → World → Prop) (x0 x1 : Value) (w : World) (Q : Value → World → Prop) : Prop :=
 run1 Tryz.prog Z (eqOp .eql 171 false true x0 (.pointer none)) w fun t1 w =>
 CondV t1 (
 Q (Value.tuple #[]) w) (
 run1 Tryz.prog Z (Builtin.len_ #[9] 3 #[x1]) w fun t2 w =>
 run1 Tryz.prog Z (convert 3 21 t2) w fun t3 w =>
 CallV Tryz.prog Z 170 #[x0, t3] w fun t4 w =>
 runX Tryz.prog Z (nilChk x0) w fun t5 w =>
 run1 Tryz.prog Z (Instr.fieldAt 173 t5 0) w fun t6 w =>
 run1 Tryz.prog Z (Instr.loadAt 53 t6) w fun t7 w =>
 run1 Tryz.prog Z (Builtin.append_ #[53, 9] 53 #[t7, x1]) w fun t8 w =>
 runX Tryz.prog Z (nilChk x0) w fun t9 w =>
 run1 Tryz.prog Z (Instr.fieldAt 173 t9 0) w fun t10 w =>
 run0 Tryz.prog Z (Instr.storeAt 53 t10 t8) w fun w =>
 Q (Value.tuple #[]) w)
def f166.an : An := (.sq (.sq .leaf (.cn .leaf .leaf)) (.sq .leaf .leaf))
theorem f166.calls {Z : List PanicEntry → World → Prop} {x0 x1 : Value} {w : World} {Q : Value → World → Prop} (h : f166.sh Z x0 x1 w Q) : CallV Tryz.prog Z 166 #[x0, x1] w Q :=
 cl Tryz.func166 f166.an [x0, x1] (by kernel_rfl) (by kernel_rfl) h

def f167.sh (Z : List PanicEntry → World → Prop) (x0 x1 : Value) (w : World) (Q : Value → World → Prop) : Prop :=
 run1 Tryz.prog Z (eqOp .eql 171 false true x0 (.pointer none)) w fun t1 w =>
 CondV t1 (
 Q (Value.tuple #[]) w) (
 run1 Tryz.prog Z (Builtin.len_ #[53] 3 #[x1]) w fun t2 w =>
 run1 Tryz.prog Z (convert 3 21 t2) w fun t3 w =>
 CallV Tryz.prog Z 170 #[x0, t3] w fun t4 w =>
 CallV Tryz.prog Z 184 #[x0, x1] w fun t5 w =>
 Q (Value.tuple #[]) w)
def f167.an : An := (.sq (.sq .leaf (.cn .leaf .leaf)) (.sq .leaf .leaf))
theorem f167.calls {Z : List PanicEntry → World → Prop} {x0 x1 : Value} {w : World} {Q : Value → World → Prop} (h : f167.sh Z x0 x1 w Q) : CallV Tryz.prog Z 167 #[x0, x1] w Q :=
 cl Tryz.func167 f167.an [x0, x1] (by kernel_rfl) (by kernel_rfl) h

def f168.sh (Z : List PanicEntry → World → Prop) (x0 x1 x2 : Value) (w : World) (Q : Value → World → Prop) : Prop :=
 run1 Tryz.prog Z (eqOp .eql 171 false true x0 (.pointer none)) w fun t1 w =>
 CondV t1 (
 Q (Value.tuple #[]) w) (
 run1 Tryz.prog Z (Builtin.len_ #[54] 3 #[x1]) w fun t2 w =>
 run1 Tryz.prog Z (convert 3 21 t2) w fun t3 w =>
 CallV Tryz.prog Z 170 #[x0, t3] w fun t4 w =>
 run1 Tryz.prog Z (eqOp .eql 214 false true x2 .nilFunc) w fun t5 w =>
 CondV t5 (
 Q (Value.tuple #[]) w) (
 run1 Tryz.prog Z (Builtin.len_ #[54] 3 #[x1]) w fun t6 w =>
 ∃ J_7 : Nat → Value → World → Prop, (∃ m, J_7 m (.int .i64 0) w) ∧
 ∀ m_7, ∀ t8 : Value, ∀ w : World, J_7 m_7 t8 w → Env →
 run1 Tryz.prog Z (binOp .lss 3 t8 t6) w fun t9 w =>
 CondV t9 (
 run1 Tryz.prog Z (Instr.indexAt 54 x1 t8) w fun t10 w =>
 run1 Tryz.prog Z (Instr.loadAt 146 t10) w fun t11 w =>
 run1 Tryz.prog Z (Instr.alloc 146 true (.tuple #[])) w fun t12 w =>
 run0 Tryz.prog Z (Instr.storeAt 146 t12 t11) w fun w =>
 run1 Tryz.prog Z (Instr.loadAt 146 t12) w fun t13 w =>
 runX Tryz.prog Z (callVal x2 #[x0, t13]) w fun t14 w =>
 run1 Tryz.prog Z (binOp .add 3 t8 (.int .i64 1)) w fun t15 w =>
 ∃ n_7, n_7 < m_7 ∧ J_7 n_7 t15 w) (
 Q (Value.tuple #[]) w)))
def f168.an : An := (.sq (.sq .leaf (.cn .leaf .leaf)) (.sq .leaf (.sq (.sq .leaf (.cn .leaf .leaf)) (.sq .leaf (.bl (.lp [19] (.sq .leaf (.sq (.cn .leaf .leaf) (.sq (.bl (.sq .leaf .leaf)) .leaf)))))))))
theorem f168.calls {Z : List PanicEntry → World → Prop} {x0 x1 x2 : Value} {w : World} {Q : Value → World → Prop} (h : f168.sh Z x0 x1 x2 w Q) : CallV Tryz.prog Z 168 #[x0, x1, x2] w Q :=
 cl Tryz.func168 f168.an [x0, x1, x2] (by kernel_rfl) (by kernel_rfl) h

def f169.sh (Z : List PanicEntry → World → Prop) (x0 x1 : Value) (w : World) (Q : Value → World → Prop) : Prop :=
 run1 Tryz.prog Z (Instr.box 146 x1) w fun t1 w =>
 run1 Tryz.prog Z (Instr.fieldAt 146 t1 0) w fun t2 w =>
 run1 Tryz.prog Z (Instr.loadAt 50 t2) w fun t3 w =>
 CallV Tryz.prog Z 125 #[x0, t3] w fun t4 w =>
 run1 Tryz.prog Z (Instr.fieldAt 146 t1 1) w fun t5 w =>
 run1 Tryz.prog Z (Instr.loadAt 144 t5) w fun t6 w =>
 CallV Tryz.prog Z 173 #[x0, t6] w fun t7 w =>
 Q (Value.tuple #[]) w
def f169.an : An := (.sq .leaf (.sq .leaf .leaf))
theorem f169.calls {Z : List PanicEntry → World → Prop} {x0 x1 : Value} {w : World} {Q : Value → World → Prop} (h : f169.sh Z x0 x1 w Q) : CallV Tryz.prog Z 169 #[x0, x1] w Q :=
 cl Tryz.func169 f169.an [x0, x1] (by kernel_rfl) (by kernel_rfl) h

def f170.sh (Z : List PanicEntry → World → Prop) (x0 x1 : Value) (w : World) (Q : Value → World → Prop) : Prop :=
 run1 Tryz.prog Z (convert 21 115 x1) w fun t1 w =>
 CallV Tryz.prog Z 165 #[x0, t1, (.int .i64 4)] w fun t2 w =>
 Q (Value.tuple #[]) w
def f170.an : An := .leaf
theorem f170.calls {Z : List PanicEntry → World → Prop} {x0 x1 : Value} {w : World} {Q : Value → World → Prop} (h : f170.sh Z x0 x1 w Q) : CallV Tryz.prog Z 170 #[x0, x1] w Q :=
 cl Tryz.func170 f170.an [x0, x1] (by kernel_rfl) (by kernel_rfl) h

def f171.sh (Z : List PanicEntry → World → Prop) (x0 x1 : Value) (w : World) (Q : Value → World → Prop) : Prop :=
 ∀ j_1 : Value → World → Prop, (∀ t2 : Value, ∀ w : World, (Env →
 CallV Tryz.prog Z 165 #[x0, t2, (.int .i64 1)] w fun t3 w =>
 Q (Value.tuple #[]) w) →
 j_1 t2 w) →
 CondV x1 (
 j_1 (.int .u64 1) w) (
 j_1 (.int .u64 0) w)
def f171.an : An := (.sq .leaf (.sj [4] (.sq .leaf (.cn .leaf .leaf)) .leaf))
theorem f171.calls {Z : List PanicEntry → World → Prop} {x0 x1 : Value} {w : World} {Q : Value → World → Prop} (h : f171.sh Z x0 x1 w Q) : CallV Tryz.prog Z 171 #[x0, x1] w Q :=
 cl Tryz.func171 f171.an [x0, x1] (by kernel_rfl) (by kernel_rfl) h

def f172.sh (Z : List PanicEntry → World → Prop) (x0 x1 x2 : Value) (w : World) (Q : Value → World → Prop) : Prop :=
 run1 Tryz.prog Z (eqOp .eql 171 false true x0 (.pointer none)) w fun t1 w =>
 CondV t1 (
 Q (Value.tuple #[]) w) (
 run1 Tryz.prog Z (Builtin.len_ #[55] 3 #[x1]) w fun t2 w =>
 run1 Tryz.prog Z (convert 3 21 t2) w fun t3 w =>
 CallV Tryz.prog Z 170 #[x0, t3] w fun t4 w =>
 run1 Tryz.prog Z (eqOp .eql 218 false true x2 .nilFunc) w fun t5 w =>
 CondV t5 (
 Q (Value.tuple #[]) w) (
 run1 Tryz.prog Z (Builtin.len_ #[55] 3 #[x1]) w fun t6 w =>
 ∃ J_7 : Nat → Value → World → Prop, (∃ m, J_7 m (.int .i64 0) w) ∧
 ∀ m_7, ∀ t8 : Value, ∀ w : World, J_7 m_7 t8 w → Env →
 run1 Tryz.prog Z (binOp .lss 3 t8 t6) w fun t9 w =>
 CondV t9 (
 run1 Tryz.prog Z (Instr.indexAt 55 x1 t8) w fun t10 w =>
 run1 Tryz.prog Z (Instr.loadAt 144 t10) w fun t11 w =>
 run1 Tryz.prog Z (Instr.alloc 144 true (.tuple #[])) w fun t12 w =>
 run0 Tryz.prog Z (Instr.storeAt 144 t12 t11) w fun w =>
 run1 Tryz.prog Z (Instr.loadAt 144 t12) w fun t13 w =>
 runX Tryz.prog Z (callVal x2 #[x0, t13]) w fun t14 w =>
 run1 Tryz.prog Z (binOp .add 3 t8 (.int .i64 1)) w fun t15 w =>
 ∃ n_7, n_7 < m_7 ∧ J_7 n_7 t15 w) (
 Q (Value.tuple #[]) w)))
def f172.an : An := (.sq (.sq .leaf (.cn .leaf .leaf)) (.sq .leaf (.sq (.sq .leaf (.cn .leaf .leaf)) (.sq .leaf (.bl (.lp [19] (.sq .leaf (.sq (.cn .leaf .leaf) (.sq (.bl (.sq .leaf .leaf)) .leaf)))))))))
theorem f172.calls {Z : List PanicEntry → World → Prop} {x0 x1 x2 : Value} {w : World} {Q : Value → World → Prop} (h : f172.sh Z x0 x1 x2 w Q) : CallV Tryz.prog Z 172 #[x0, x1, x2] w Q :=
 cl Tryz.func172 f172.an [x0, x1, x2] (by kernel_rfl) (by kernel_rfl) h

def f173.sh (Z : List PanicEntry → World → Prop) (x0 x1 : Value) (w : World) (Q : Value → World → Prop) : Prop :=
 run1 Tryz.prog Z (Instr.box 144 x1) w fun t1 w =>
 run1 Tryz.prog Z (Instr.fieldAt 144 t1 0) w fun t2 w =>
 run1 Tryz.prog Z (Instr.loadAt 9 t2) w fun t3 w =>
 CallV Tryz.prog Z 166 #[x0, t3] w fun t4 w =>
 run1 Tryz.prog Z (Instr.fieldAt 144 t1 1) w fun t5 w =>
 run1 Tryz.prog Z (Instr.loadAt 9 t5) w fun t6 w =>
 CallV Tryz.prog Z 166 #[x0, t6] w fun t7 w =>
 Q (Value.tuple #[]) w
def f173.an : An := (.sq .leaf (.sq .leaf .leaf))
theorem f173.calls {Z : List PanicEntry → World → Prop} {x0 x1 : Value} {w : World} {Q : Value → World → Prop} (h : f173.sh Z x0 x1 w Q) : CallV Tryz.prog Z 173 #[x0, x1] w Q :=
 cl Tryz.func173 f173.an [x0, x1] (by kernel_rfl) (by kernel_rfl) h

def f174.sh (Z : List PanicEntry → World → Prop) (x0 x1 x2 : Value) (w : World) (Q : Value → World → Prop) : Prop :=
 run1 Tryz.prog Z (eqOp .eql 171 false true x0 (.pointer none)) w fun t1 w =>
 CondV t1 (
 Q (Value.tuple #[]) w) (
 run1 Tryz.prog Z (Builtin.len_ #[56] 3 #[x1]) w fun t2 w =>
 run1 Tryz.prog Z (convert 3 21 t2) w fun t3 w =>
 CallV Tryz.prog Z 170 #[x0, t3] w fun t4 w =>
 run1 Tryz.prog Z (eqOp .eql 177 false true x2 .nilFunc) w fun t5 w =>
 CondV t5 (
 Q (Value.tuple #[]) w) (
 run1 Tryz.prog Z (Builtin.len_ #[56] 3 #[x1]) w fun t6 w =>
 ∃ J_7 : Nat → Value → World → Prop, (∃ m, J_7 m (.int .i64 0) w) ∧
 ∀ m_7, ∀ t8 : Value, ∀ w : World, J_7 m_7 t8 w → Env →
 run1 Tryz.prog Z (binOp .lss 3 t8 t6) w fun t9 w =>
 CondV t9 (
 run1 Tryz.prog Z (Instr.indexAt 56 x1 t8) w fun t10 w =>
 run1 Tryz.prog Z (Instr.loadAt 58 t10) w fun t11 w =>
 run1 Tryz.prog Z (Instr.alloc 58 true (.tuple #[])) w fun t12 w =>
 run0 Tryz.prog Z (Instr.storeAt 58 t12 t11) w fun w =>
 run1 Tryz.prog Z (Instr.loadAt 58 t12) w fun t13 w =>
 runX Tryz.prog Z (callVal x2 #[x0, t13]) w fun t14 w =>
 run1 Tryz.prog Z (binOp .add 3 t8 (.int .i64 1)) w fun t15 w =>
 ∃ n_7, n_7 < m_7 ∧ J_7 n_7 t15 w) (
 Q (Value.tuple #[]) w)))
def f174.an : An := (.sq (.sq .leaf (.cn .leaf .leaf)) (.sq .leaf (.sq (.sq .leaf (.cn .leaf .leaf)) (.sq .leaf (.bl (.lp [19] (.sq .leaf (.sq (.cn .leaf .leaf) (.sq (.bl (.sq .leaf .leaf)) .leaf)))))))))
theorem f174.calls {Z : List PanicEntry → World → Prop} {x0 x1 x2 : Value} {w : World} {Q : Value → World → Prop} (h : f174.sh Z x0 x1 x2 w Q) : CallV Tryz.prog Z 174 #[x0, x1, x2] w Q :=
 cl Tryz.func174 f174.an [x0, x1, x2] (by kernel_rfl) (by kernel_rfl) h

def f175.sh (Z : List PanicEntry → World → Prop) (x0 : Value) (w : World) (Q : Value → World → Prop) : Prop :=
 run1 Tryz.prog Z (Instr.box 179 x0) w fun t1 w =>
 run1 Tryz.prog Z (Instr.indexAt 179 t1 (.int .i64 0)) w fun t2 w =>
 run1 Tryz.prog Z (Instr.loadAt 5 t2) w fun t3 w =>
 run1 Tryz.prog Z (convert 5 3 t3) w fun t4 w =>
 run1 Tryz.prog Z (binOp .shl 3 t4 (.int .u64 24)) w fun t5 w =>
 run1 Tryz.prog Z (Instr.indexAt 179 t1 (.int .i64 1)) w fun t6 w =>
 run1 Tryz.prog Z (Instr.loadAt 5 t6) w fun t7 w =>
 run1 Tryz.prog Z (convert 5 3 t7) w fun t8 w =>
 run1 Tryz.prog Z (binOp .shl 3 t8 (.int .u64 16)) w fun t9 w =>
 run1 Tryz.prog Z (binOp .or 3 t5 t9) w fun t10 w =>
 run1 Tryz.prog Z (Instr.indexAt 179 t1 (.int .i64 2)) w fun t11 w =>
 run1 Tryz.prog Z (Instr.loadAt 5 t11) w fun t12 w =>
 run1 Tryz.prog Z (convert 5 3 t12) w fun t13 w =>
 run1 Tryz.prog Z (binOp .shl 3 t13 (.int .u64 8)) w fun t14 w =>
 run1 Tryz.prog Z (binOp .or 3 t10 t14) w fun t15 w =>
 run1 Tryz.prog Z (Instr.indexAt 179 t1 (.int .i64 3)) w fun t16 w =>
 run1 Tryz.prog Z (Instr.loadAt 5 t16) w fun t17 w =>
 run1 Tryz.prog Z (convert 5 3 t17) w fun t18 w =>
 run1 Tryz.prog Z (binOp .or 3 t15 t18) w fun t19 w =>
 Q t19 w
def f175.an : An := (.sq .leaf (.sq .leaf .leaf))
theorem f175.calls {Z : List PanicEntry → World → Prop} {x0 : Value} {w : World} {Q : Value → World → Prop} (h : f175.sh Z x0 w Q) : CallV Tryz.prog Z 175 #[x0] w Q :=
 cl Tryz.func175 f175.an [x0] (by kernel_rfl) (by kernel_rfl) h

def f176.sh (Z : List PanicEntry → World → Prop) (x0 x1 : Value) (w : World) (Q : Value → World → Prop) : Prop :=
 CallV Tryz.prog Z 145 #[x0] w fun t1 w =>
 run1 Tryz.prog Z (Op.unary .not t1) w fun t2 w =>
 CondV t2 (
 Q (Value.tuple #[(.slice none 0 0), (.bool false)]) w) (
 runX Tryz.prog Z (nilChk x0) w fun t3 w =>
 run1 Tryz.prog Z (Instr.fieldAt 183 t3 1) w fun t4 w =>
 run1 Tryz.prog Z (Instr.loadAt 53 t4) w fun t5 w =>
 run1 Tryz.prog Z (Builtin.len_ #[53] 3 #[t5]) w fun t6 w =>
 run1 Tryz.prog Z (binOp .lss 3 t6 x1) w fun t7 w =>
 CondV t7 (
 runX Tryz.prog Z (nilChk x0) w fun t8 w =>
 run1 Tryz.prog Z (Instr.fieldAt 183 t8 2) w fun t9 w =>
 run0 Tryz.prog Z (Instr.storeAt 25 t9 (.int .i64 10)) w fun w =>
 Q (Value.tuple #[(.slice none 0 0), (.bool false)]) w) (
 runX Tryz.prog Z (nilChk x0) w fun t10 w =>
 run1 Tryz.prog Z (Instr.fieldAt 183 t10 1) w fun t11 w =>
 run1 Tryz.prog Z (Instr.loadAt 53 t11) w fun t12 w =>
 run1 Tryz.prog Z (Instr.sliceAt 53 t12 none (some x1) (some x1)) w fun t13 w =>
 Q (Value.tuple #[t13, (.bool true)]) w))
def f176.an : An := (.sq .leaf (.sq (.sq .leaf (.cn (.sq .leaf .leaf) .leaf)) (.sq (.sq .leaf (.cn (.sq .leaf (.sq .leaf .leaf)) .leaf)) (.sq .leaf .leaf))))
theorem f176.calls {Z : List PanicEntry → World → Prop} {x0 x1 : Value} {w : World} {Q : Value → World → Prop} (h : f176.sh Z x0 x1 w Q) : CallV Tryz.prog Z 176 #[x0, x1] w Q :=
 cl Tryz.func176 f176.an [x0, x1] (by kernel_rfl) (by kernel_rfl) h

def f177.sh (Z : List PanicEntry → World → Prop) (x0 x1 : Value) (w : World) (Q : Value → World → Prop) : Prop :=
 CallV Tryz.prog Z 178 #[x0] w fun t1 w =>
 CallV Tryz.prog Z 140 #[x0] w fun t2 w =>
 run1 Tryz.prog Z (convert 21 3 t2) w fun t3 w =>
 CallV Tryz.prog Z 145 #[x0] w fun t4 w =>
 run1 Tryz.prog Z (Op.unary .not t4) w fun t5 w =>
 CondV t5 (
 Q (.slice none 0 0) w) (
 run1 Tryz.prog Z (binOp .lss 3 t3 (.int .i64 0)) w fun t6 w =>
 guardW (t6) false (fun k => k (t3) w) (fun t7 w =>
 guardW (t6) false (fun k => k (x1) w) (fun t8 w =>
 guardW (t6) false (fun k => run1 Tryz.prog Z (binOp .gtr 3 t7 t8) w k) (fun t9 w =>
 run1 Tryz.prog Z (pickV t6 (.bool true) t9) w fun t10 w =>
 CondV t10 (
 CallV Tryz.prog Z 179 #[x0, t1, (.int .i64 11)] w fun t11 w =>
 Q (.slice none 0 0) w) (
 CallV Tryz.prog Z 176 #[x0, t3] w fun t12 w =>
 run1 Tryz.prog Z (Instr.extract t12 0) w fun t13 w =>
 run1 Tryz.prog Z (Instr.extract t12 1) w fun t14 w =>
 run1 Tryz.prog Z (Op.unary .not t14) w fun t15 w =>
 CondV t15 (
 CallV Tryz.prog Z 179 #[x0, t1, (.int .i64 10)] w fun t16 w =>
 Q (.slice none 0 0) w) (
 runX Tryz.prog Z (nilChk x0) w fun t17 w =>
 run1 Tryz.prog Z (Instr.fieldAt 183 t17 1) w fun t18 w =>
 run1 Tryz.prog Z (Instr.loadAt 53 t18) w fun t19 w =>
 run1 Tryz.prog Z (Instr.sliceAt 53 t19 (some t3) none none) w fun t20 w =>
 runX Tryz.prog Z (nilChk x0) w fun t21 w =>
 run1 Tryz.prog Z (Instr.fieldAt 183 t21 1) w fun t22 w =>
 run0 Tryz.prog Z (Instr.storeAt 53 t22 t20) w fun w =>
 Q t13 w))) w) w) w)
def f177.an : An := (.sq .leaf (.sq .leaf (.sq .leaf (.sq (.sq .leaf (.cn (.sq .leaf .leaf) .leaf)) (.sq (.sq .leaf (.cn (.sq .leaf (.sq .leaf .leaf)) .leaf)) (.sq .leaf (.sq (.sq .leaf (.cn (.sq .leaf (.sq .leaf .leaf)) .leaf)) (.sq .leaf (.sq .leaf .leaf)))))))))
theorem f177.calls {Z : List PanicEntry → World → Prop} {x0 x1 : Value} {w : World} {Q : Value → World → Prop} (h : f177.sh Z x0 x1 w Q) : CallV Tryz.prog Z 177 #[x0, x1] w Q :=
 cl Tryz.func177 f177.an [x0, x1] (by kernel_rfl) (by kernel_rfl) h

def f178.sh (Z : List PanicEntry → World → Prop) (x0 : Value) (w : World) (Q : Value → World → Prop) : Prop :=
 CallV Tryz.prog Z 180 #[x0] w fun t1 w =>
 CondV t1 (
 Q (.slice none 0 0) w) (
 runX Tryz.prog Z (nilChk x0) w fun t2 w =>
 run1 Tryz.prog Z (Instr.fieldAt 183 t2 1) w fun t3 w =>
 run1 Tryz.prog Z (Instr.loadAt 53 t3) w fun t4 w =>
 Q t4 w)
def f178.an : An := (.sq .leaf (.sq (.sq .leaf (.cn (.sq .leaf .leaf) .leaf)) (.sq .leaf .leaf)))
theorem f178.calls {Z : List PanicEntry → World → Prop} {x0 : Value} {w : World} {Q : Value → World → Prop} (h : f178.sh Z x0 w Q) : CallV Tryz.prog Z 178 #[x0] w Q :=
 cl Tryz.func178 f178.an [x0] (by kernel_rfl) (by kernel_rfl) h

def f179.sh (Z : List PanicEntry → World → Prop) (x0 x1 x2 : Value) (w : World) (Q : Value → World → Prop) : Prop :=
 runX Tryz.prog Z (nilChk x0) w fun t1 w =>
 run1 Tryz.prog Z (Instr.fieldAt 183 t1 1) w fun t2 w =>
 run0 Tryz.prog Z (Instr.storeAt 53 t2 x1) w fun w =>
 runX Tryz.prog Z (nilChk x0) w fun t3 w =>
 run1 Tryz.prog Z (Instr.fieldAt 183 t3 2) w fun t4 w =>
 run0 Tryz.prog Z (Instr.storeAt 25 t4 x2) w fun w =>
 Q (Value.tuple #[]) w
def f179.an : An := .leaf
theorem f179.calls {Z : List PanicEntry → World → Prop} {x0 x1 x2 : Value} {w : World} {Q : Value → World → Prop} (h : f179.sh Z x0 x1 x2 w Q) : CallV Tryz.prog Z 179 #[x0, x1, x2] w Q :=
 cl Tryz.func179 f179.an [x0, x1, x2] (by kernel_rfl) (by kernel_rfl) h

def f180.sh (Z : List PanicEntry → World → Prop) (x0 : Value) (w : World) (Q : Value → World → Prop) : Prop :=
 run1 Tryz.prog Z (eqOp .eql 134 false true x0 (.pointer none)) w fun t1 w =>
 guardW (t1) false (fun k => k (x0) w) (fun t2 w =>
 guardW (t1) false (fun k => runX Tryz.prog Z (nilChk t2) w k) (fun t3 w =>
 guardW (t1) false (fun k => run1 Tryz.prog Z (Instr.fieldAt 183 t3 0) w k) (fun t4 w =>
 guardW (t1) false (fun k => run1 Tryz.prog Z (Instr.loadAt 4 t4) w k) (fun t5 w =>
 guardW (t1) false (fun k => run1 Tryz.prog Z (Op.unary .not t5) w k) (fun t6 w =>
 run1 Tryz.prog Z (pickV t1 (.bool true) t6) w fun t7 w =>
 Q t7 w) w) w) w) w) w
def f180.an : An := (.sq .leaf (.sq .leaf .leaf))
theorem f180.calls {Z : List PanicEntry → World → Prop} {x0 : Value} {w : World} {Q : Value → World → Prop} (h : f180.sh Z x0 w Q) : CallV Tryz.prog Z 180 #[x0] w Q :=
 cl Tryz.func180 f180.an [x0] (by kernel_rfl) (by kernel_rfl) h

def f181.sh (Z : List PanicEntry → World → Prop) (x0 x1 : Value) (w : World) (Q : Value → World → Prop) : Prop :=
 run1 Tryz.prog Z (Builtin.len_ #[55] 3 #[x0]) w fun t1 w =>
 ∃ J_2 : Nat → Value → World → Prop, (∃ m, J_2 m (.int .i64 0) w) ∧
 ∀ m_2, ∀ t3 : Value, ∀ w : World, J_2 m_2 t3 w → Env →
 run1 Tryz.prog Z (binOp .lss 3 t3 t1) w fun t4 w =>
 CondV t4 (
 run1 Tryz.prog Z (Instr.indexAt 55 x0 t3) w fun t5 w =>
 run1 Tryz.prog Z (Instr.loadAt 144 t5) w fun t6 w =>
 runX Tryz.prog Z (callVal x1 #[t6]) w fun t7 w =>
 CondV t7 (
 Q t3 w) (
 run1 Tryz.prog Z (binOp .add 3 t3 (.int .i64 1)) w fun t8 w =>
 ∃ n_2, n_2 < m_2 ∧ J_2 n_2 t8 w)) (
 Q (.int .i64 (-1)) w)
def f181.an : An := (.sq .leaf (.sq (.sq .leaf (.bl (.lp [8] (.sq .leaf (.sq (.cn .leaf .leaf) (.sq (.bl (.sq .leaf (.sq .leaf (.cn (.sq .leaf .leaf) .leaf)))) .leaf)))))) (.sq .leaf .leaf)))
theorem f181.calls {Z : List PanicEntry → World → Prop} {x0 x1 : Value} {w : World} {Q : Value → World → Prop} (h : f181.sh Z x0 x1 w Q) : CallV Tryz.prog Z 181 #[x0, x1] w Q :=
 cl Tryz.func181 f181.an [x0, x1] (by kernel_rfl) (by kernel_rfl) h

def f184.sh (Z : List PanicEntry → World → Prop) (x0 x1 : Value) (w : World) (Q : Value → World → Prop) : Prop :=
 run1 Tryz.prog Z (eqOp .neq 171 false true x0 (.pointer none)) w fun t1 w =>
 CondV t1 (
 runX Tryz.prog Z (nilChk x0) w fun t2 w =>
 run1 Tryz.prog Z (Instr.fieldAt 173 t2 0) w fun t3 w =>
 run1 Tryz.prog Z (Instr.loadAt 53 t3) w fun t4 w =>
 run1 Tryz.prog Z (Builtin.append_ #[53, 53] 53 #[t4, x1]) w fun t5 w =>
 runX Tryz.prog Z (nilChk x0) w fun t6 w =>
 run1 Tryz.prog Z (Instr.fieldAt 173 t6 0) w fun t7 w =>
 run0 Tryz.prog Z (Instr.storeAt 53 t7 t5) w fun w =>
 Q (Value.tuple #[]) w) (
 Q (Value.tuple #[]) w)
def f184.an : An := (.sq .leaf (.cn .leaf .leaf))
theorem f184.calls {Z : List PanicEntry → World → Prop} {x0 x1 : Value} {w : World} {Q : Value → World → Prop} (h : f184.sh Z x0 x1 w Q) : CallV Tryz.prog Z 184 #[x0, x1] w Q :=
 cl Tryz.func184 f184.an [x0, x1] (by kernel_rfl) (by kernel_rfl) h

end Go.Proofs.YtbccccpdnaeomaaGreatDoor
