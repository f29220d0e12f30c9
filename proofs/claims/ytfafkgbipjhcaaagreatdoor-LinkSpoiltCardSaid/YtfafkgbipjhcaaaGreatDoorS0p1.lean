import Derived.Test.YtfafkgbipjhcaaaGreatDoorShBase
set_option linter.unusedVariables false
namespace Go.Proofs.YtfafkgbipjhcaaaGreatDoor
open Go.Sh
def f136.sh (Z : List PanicEntry → World → Prop) (x0 x1 : Value) (w : World) (Q : Value → World → Prop) : Prop :=
 run1 Tryz.prog Z (Instr.box 149 x0) w fun t1 w =>
 run1 Tryz.prog Z (Instr.alloc 35 true (.tuple #[])) w fun t2 w =>
 CallV Tryz.prog Z 47 #[x1] w fun t3 w =>
 run1 Tryz.prog Z (Instr.build 35 #[(0, t3)]) w fun t4 w =>
 run1 Tryz.prog Z (Instr.alloc 35 true (.tuple #[])) w fun t5 w =>
 run0 Tryz.prog Z (Instr.storeAt 35 t5 t4) w fun w =>
 run1 Tryz.prog Z (Instr.fieldAt 35 t5 0) w fun t6 w =>
 run1 Tryz.prog Z (Instr.loadAt 22 t6) w fun t7 w =>
 CallV Tryz.prog Z 154 #[t7] w fun t8 w =>
 run1 Tryz.prog Z (Op.unary .not t8) w fun t9 w =>
 guardW (t9) false (fun k => run1 Tryz.prog Z (Instr.fieldAt 149 t1 0) w k) (fun t10 w =>
 guardW (t9) false (fun k => run1 Tryz.prog Z (Instr.loadAt 4 t10) w k) (fun t11 w =>
 guardW (t9) false (fun k => k (t11) w) (fun t12 w =>
 guardW (t12) true (fun k => run1 Tryz.prog Z (Instr.fieldAt 35 t5 0) w k) (fun t13 w =>
 guardW (t12) true (fun k => run1 Tryz.prog Z (Instr.loadAt 22 t13) w k) (fun t14 w =>
 guardW (t12) true (fun k => run1 Tryz.prog Z (binOp .gtr 22 t14 (.int .i8 5)) w k) (fun t15 w =>
 guardW (t9) false (fun k => run1 Tryz.prog Z (pickV t12 t15 (.bool false)) w k) (fun t16 w =>
 run1 Tryz.prog Z (pickV t9 (.bool true) t16) w fun t17 w =>
 CondV t17 (
 CallV Tryz.prog Z 155 #[x1, (.int .i64 40)] w fun t18 w =>
 run1 Tryz.prog Z (Instr.build 35 #[]) w fun t19 w =>
 run0 Tryz.prog Z (Instr.storeAt 35 t2 t19) w fun w =>
 ∃ r_20, (do loadVar 35 (← asAddr t2) : Sem Value).run Tryz.prog w = .ok r_20 w ∧
 Q r_20 w) (
 run1 Tryz.prog Z (Instr.loadAt 149 t1) w fun t21 w =>
 run1 Tryz.prog Z (Instr.fieldAt 35 t5 0) w fun t22 w =>
 run1 Tryz.prog Z (Instr.loadAt 22 t22) w fun t23 w =>
 CallV Tryz.prog Z 147 #[t21, t23] w fun t24 w =>
 ∀ j_25 : World → Prop, (∀ w : World, (Env →
 ∀ j_26 : World → Prop, (∀ w : World, (Env →
 ∀ j_27 : World → Prop, (∀ w : World, (Env →
 ∀ j_28 : World → Prop, (∀ w : World, (Env →
 ∀ j_29 : World → Prop, (∀ w : World, (Env →
 ∀ j_30 : World → Prop, (∀ w : World, (Env →
 ∀ j_31 : World → Prop, (∀ w : World, (Env →
 ∀ j_32 : World → Prop, (∀ w : World, (Env →
 ∀ j_33 : World → Prop, (∀ w : World, (Env →
 run1 Tryz.prog Z (Instr.loadAt 35 t5) w fun t34 w =>
 run0 Tryz.prog Z (Instr.storeAt 35 t2 t34) w fun w =>
 ∃ r_35, (do loadVar 35 (← asAddr t2) : Sem Value).run Tryz.prog w = .ok r_35 w ∧
 Q r_35 w) →
 j_33 w) →
 run1 Tryz.prog Z (binOp .and 121 t24 (.int .u64 256)) w fun t36 w =>
 run1 Tryz.prog Z (eqOp .neq 121 false true t36 (.int .u64 0)) w fun t37 w =>
 CondV t37 (
 run1 Tryz.prog Z (Instr.build 149 #[(0, (.bool true))]) w fun t38 w =>
 run1 Tryz.prog Z (Instr.makeFunc (.func 136) #[t38] #[]) w fun t39 w =>
 CallV Tryz.prog Z 161 #[x1, (.int .i64 8), t39] w fun t40 w =>
 run1 Tryz.prog Z (Instr.fieldAt 35 t5 10) w fun t41 w =>
 run0 Tryz.prog Z (Instr.storeAt 33 t41 t40) w fun w =>
 j_33 w) (
 j_33 w)) →
 j_32 w) →
 run1 Tryz.prog Z (binOp .and 121 t24 (.int .u64 128)) w fun t42 w =>
 run1 Tryz.prog Z (eqOp .neq 121 false true t42 (.int .u64 0)) w fun t43 w =>
 CondV t43 (
 CallV Tryz.prog Z 159 #[x1, (.int .i64 4), (.func (.func 160) #[] #[])] w fun t44 w =>
 run1 Tryz.prog Z (Instr.fieldAt 35 t5 9) w fun t45 w =>
 run0 Tryz.prog Z (Instr.storeAt 32 t45 t44) w fun w =>
 j_32 w) (
 j_32 w)) →
 j_31 w) →
 run1 Tryz.prog Z (binOp .and 121 t24 (.int .u64 64)) w fun t46 w =>
 run1 Tryz.prog Z (eqOp .neq 121 false true t46 (.int .u64 0)) w fun t47 w =>
 CondV t47 (
 CallV Tryz.prog Z 141 #[x1] w fun t48 w =>
 run1 Tryz.prog Z (Instr.fieldAt 35 t5 8) w fun t49 w =>
 run0 Tryz.prog Z (Instr.storeAt 21 t49 t48) w fun w =>
 j_31 w) (
 j_31 w)) →
 j_30 w) →
 run1 Tryz.prog Z (binOp .and 121 t24 (.int .u64 32)) w fun t50 w =>
 run1 Tryz.prog Z (eqOp .neq 121 false true t50 (.int .u64 0)) w fun t51 w =>
 CondV t51 (
 CallV Tryz.prog Z 88 #[x1] w fun t52 w =>
 run1 Tryz.prog Z (Instr.fieldAt 35 t5 7) w fun t53 w =>
 run0 Tryz.prog Z (Instr.storeAt 2 t53 t52) w fun w =>
 j_30 w) (
 j_30 w)) →
 j_29 w) →
 run1 Tryz.prog Z (binOp .and 121 t24 (.int .u64 16)) w fun t54 w =>
 run1 Tryz.prog Z (eqOp .neq 121 false true t54 (.int .u64 0)) w fun t55 w =>
 CondV t55 (
 CallV Tryz.prog Z 74 #[x1] w fun t56 w =>
 run1 Tryz.prog Z (Instr.fieldAt 35 t5 5) w fun t57 w =>
 run0 Tryz.prog Z (Instr.storeAt 4 t57 t56) w fun w =>
 CallV Tryz.prog Z 74 #[x1] w fun t58 w =>
 run1 Tryz.prog Z (Instr.fieldAt 35 t5 6) w fun t59 w =>
 run0 Tryz.prog Z (Instr.storeAt 4 t59 t58) w fun w =>
 j_29 w) (
 j_29 w)) →
 j_28 w) →
 run1 Tryz.prog Z (binOp .and 121 t24 (.int .u64 8)) w fun t60 w =>
 run1 Tryz.prog Z (eqOp .neq 121 false true t60 (.int .u64 0)) w fun t61 w =>
 CondV t61 (
 CallV Tryz.prog Z 141 #[x1] w fun t62 w =>
 run1 Tryz.prog Z (Instr.fieldAt 35 t5 4) w fun t63 w =>
 run0 Tryz.prog Z (Instr.storeAt 21 t63 t62) w fun w =>
 j_28 w) (
 j_28 w)) →
 j_27 w) →
 run1 Tryz.prog Z (binOp .and 121 t24 (.int .u64 4)) w fun t64 w =>
 run1 Tryz.prog Z (eqOp .neq 121 false true t64 (.int .u64 0)) w fun t65 w =>
 CondV t65 (
 CallV Tryz.prog Z 157 #[x1, (.int .i64 4), (.func (.func 158) #[] #[])] w fun t66 w =>
 run1 Tryz.prog Z (Instr.fieldAt 35 t5 3) w fun t67 w =>
 run0 Tryz.prog Z (Instr.storeAt 31 t67 t66) w fun w =>
 j_27 w) (
 j_27 w)) →
 j_26 w) →
 run1 Tryz.prog Z (binOp .and 121 t24 (.int .u64 2)) w fun t68 w =>
 run1 Tryz.prog Z (eqOp .neq 121 false true t68 (.int .u64 0)) w fun t69 w =>
 CondV t69 (
 CallV Tryz.prog Z 83 #[x1, (.int .i64 96)] w fun t70 w =>
 run1 Tryz.prog Z (Instr.fieldAt 35 t5 2) w fun t71 w =>
 run0 Tryz.prog Z (Instr.storeAt 30 t71 t70) w fun w =>
 j_26 w) (
 j_26 w)) →
 j_25 w) →
 run1 Tryz.prog Z (binOp .and 121 t24 (.int .u64 1)) w fun t72 w =>
 run1 Tryz.prog Z (eqOp .neq 121 false true t72 (.int .u64 0)) w fun t73 w =>
 CondV t73 (
 CallV Tryz.prog Z 156 #[x1, (.int .i64 64)] w fun t74 w =>
 run1 Tryz.prog Z (Instr.fieldAt 35 t5 1) w fun t75 w =>
 run0 Tryz.prog Z (Instr.storeAt 9 t75 t74) w fun w =>
 j_25 w) (
 j_25 w))) w) w) w) w) w) w) w
def f136.an : An := (.sq .leaf (.sq .leaf (.sq (.sq .leaf (.cn (.sq .leaf (.sq .leaf .leaf)) .leaf)) (.sq .leaf (.sj [] (.sq .leaf (.cn .leaf .leaf)) (.sj [] (.sq .leaf (.cn .leaf .leaf)) (.sj [] (.sq .leaf (.cn .leaf .leaf)) (.sj [] (.sq .leaf (.cn .leaf .leaf)) (.sj [] (.sq .leaf (.cn (.sq .leaf .leaf) .leaf)) (.sj [] (.sq .leaf (.cn .leaf .leaf)) (.sj [] (.sq .leaf (.cn .leaf .leaf)) (.sj [] (.sq .leaf (.cn .leaf .leaf)) (.sj [] (.sq .leaf (.cn .leaf .leaf)) (.sq .leaf .leaf))))))))))))))
theorem f136.calls {Z : List PanicEntry → World → Prop} {x0 x1 : Value} {w : World} {Q : Value → World → Prop} (h : f136.sh Z x0 x1 w Q) : CallV Tryz.prog Z 136 #[x0, x1] w Q :=
 cl Tryz.func136 f136.an [x0, x1] (by kernel_rfl) (by kernel_rfl) h

def f137.sh (Z : List PanicEntry → World → Prop) (x0 : Value) (w : World) (Q : Value → World → Prop) : Prop :=
 run1 Tryz.prog Z (Instr.box 35 x0) w fun t1 w =>
 run1 Tryz.prog Z (Instr.fieldAt 35 t1 0) w fun t2 w =>
 run1 Tryz.prog Z (Instr.loadAt 22 t2) w fun t3 w =>
 CallV Tryz.prog Z 154 #[t3] w fun t4 w =>
 run1 Tryz.prog Z (Op.unary .not t4) w fun t5 w =>
 guardW (t5) false (fun k => run1 Tryz.prog Z (Instr.loadAt 35 t1) w k) (fun t6 w =>
 guardW (t5) false (fun k => CallV Tryz.prog Z 162 #[t6] w k) (fun t7 w =>
 guardW (t5) false (fun k => run1 Tryz.prog Z (Op.unary .not t7) w k) (fun t8 w =>
 run1 Tryz.prog Z (pickV t5 (.bool true) t8) w fun t9 w =>
 CondV t9 (
 Q (.int .i64 40) w) (
 run1 Tryz.prog Z (Instr.fieldAt 35 t1 10) w fun t10 w =>
 run1 Tryz.prog Z (Instr.loadAt 33 t10) w fun t11 w =>
 run1 Tryz.prog Z (Builtin.len_ #[33] 3 #[t11]) w fun t12 w =>
 ∃ J_13 : Nat → Value → World → Prop, (∃ m, J_13 m (.int .i64 0) w) ∧
 ∀ m_13, ∀ t14 : Value, ∀ w : World, J_13 m_13 t14 w → Env →
 run1 Tryz.prog Z (binOp .lss 3 t14 t12) w fun t15 w =>
 CondV t15 (
 run1 Tryz.prog Z (Instr.indexAt 33 t11 t14) w fun t16 w =>
 run1 Tryz.prog Z (Instr.loadAt 35 t16) w fun t17 w =>
 run1 Tryz.prog Z (Instr.alloc 35 true (.tuple #[])) w fun t18 w =>
 run0 Tryz.prog Z (Instr.storeAt 35 t18 t17) w fun w =>
 run1 Tryz.prog Z (Instr.loadAt 35 t18) w fun t19 w =>
 CallV Tryz.prog Z 163 #[t19] w fun t20 w =>
 run1 Tryz.prog Z (Op.unary .not t20) w fun t21 w =>
 CondV t21 (
 Q (.int .i64 40) w) (
 run1 Tryz.prog Z (binOp .add 3 t14 (.int .i64 1)) w fun t22 w =>
 ∃ n_13, n_13 < m_13 ∧ J_13 n_13 t22 w)) (
 Q (.int .i64 0) w))) w) w) w
def f137.an : An := (.sq .leaf (.sq (.sq .leaf (.cn (.sq .leaf .leaf) .leaf)) (.sq (.sq .leaf (.bl (.lp [17] (.sq .leaf (.sq (.cn .leaf .leaf) (.sq (.bl (.sq .leaf (.sq .leaf (.cn (.sq .leaf .leaf) .leaf)))) .leaf)))))) (.sq .leaf .leaf))))
theorem f137.calls {Z : List PanicEntry → World → Prop} {x0 : Value} {w : World} {Q : Value → World → Prop} (h : f137.sh Z x0 w Q) : CallV Tryz.prog Z 137 #[x0] w Q :=
 cl Tryz.func137 f137.an [x0] (by kernel_rfl) (by kernel_rfl) h

def f138.sh (Z : List PanicEntry → World → Prop) (x0 : Value) (w : World) (Q : Value → World → Prop) : Prop :=
 run1 Tryz.prog Z (Builtin.len_ #[171] 3 #[x0]) w fun t1 w =>
 ∃ J_2 : Nat → Value → World → Prop, (∃ m, J_2 m (.int .i64 0) w) ∧
 ∀ m_2, ∀ t3 : Value, ∀ w : World, J_2 m_2 t3 w → Env →
 run1 Tryz.prog Z (binOp .lss 3 t3 t1) w fun t4 w =>
 CondV t4 (
 run1 Tryz.prog Z (Instr.indexAt 171 x0 t3) w fun t5 w =>
 run1 Tryz.prog Z (Instr.loadAt 3 t5) w fun t6 w =>
 run1 Tryz.prog Z (eqOp .neq 3 false false t6 (.int .i64 0)) w fun t7 w =>
 CondV t7 (
 Q t6 w) (
 run1 Tryz.prog Z (binOp .add 3 t3 (.int .i64 1)) w fun t8 w =>
 ∃ n_2, n_2 < m_2 ∧ J_2 n_2 t8 w)) (
 Q (.int .i64 0) w)
def f138.an : An := (.sq .leaf (.sq .leaf (.sq (.sq .leaf (.bl (.lp [8] (.sq .leaf (.sq (.cn .leaf .leaf) (.sq (.bl (.sq .leaf (.sq .leaf (.cn (.sq .leaf .leaf) .leaf)))) .leaf)))))) (.sq .leaf .leaf))))
theorem f138.calls {Z : List PanicEntry → World → Prop} {x0 : Value} {w : World} {Q : Value → World → Prop} (h : f138.sh Z x0 w Q) : CallV Tryz.prog Z 138 #[x0] w Q :=
 cl Tryz.func138 f138.an [x0] (by kernel_rfl) (by kernel_rfl) h

def f139.sh (Z : List PanicEntry → World → Prop) (x0 x1 : Value) (w : World) (Q : Value → World → Prop) : Prop :=
 CallV Tryz.prog Z 164 #[x0] w fun t1 w =>
 CallV Tryz.prog Z 164 #[x1] w fun t2 w =>
 CondV t1 (
 CondV t2 (
 Q (.int .i64 0) w) (
 Q (.int .i64 (-1)) w)) (
 CondV t2 (
 Q (.int .i64 1) w) (
 run1 Tryz.prog Z (binOp .lss 23 x0 x1) w fun t3 w =>
 CondV t3 (
 Q (.int .i64 (-1)) w) (
 run1 Tryz.prog Z (binOp .gtr 23 x0 x1) w fun t4 w =>
 CondV t4 (
 Q (.int .i64 1) w) (
 Q (.int .i64 0) w))))
def f139.an : An := (.sq .leaf (.sq .leaf (.sq .leaf (.sq (.sq .leaf (.cn (.sq (.sq .leaf (.cn (.sq .leaf .leaf) .leaf)) (.sq .leaf .leaf)) .leaf)) (.sq (.sq .leaf (.cn (.sq .leaf .leaf) .leaf)) (.sq (.sq .leaf (.cn (.sq .leaf .leaf) .leaf)) (.sq (.sq .leaf (.cn (.sq .leaf .leaf) .leaf)) (.sq .leaf .leaf))))))))
theorem f139.calls {Z : List PanicEntry → World → Prop} {x0 x1 : Value} {w : World} {Q : Value → World → Prop} (h : f139.sh Z x0 x1 w Q) : CallV Tryz.prog Z 139 #[x0, x1] w Q :=
 cl Tryz.func139 f139.an [x0, x1] (by kernel_rfl) (by kernel_rfl) h

def f140.sh (Z : List PanicEntry → World → Prop) (x0 : Value) (w : World) (Q : Value → World → Prop) : Prop :=
 CallV Tryz.prog Z 92 #[x0] w fun t1 w =>
 CondV t1 (
 Q (.slice none 0 0) w) (
 runX Tryz.prog Z (nilChk x0) w fun t2 w =>
 run1 Tryz.prog Z (Instr.fieldAt 124 t2 1) w fun t3 w =>
 run1 Tryz.prog Z (Instr.loadAt 30 t3) w fun t4 w =>
 Q t4 w)
def f140.an : An := (.sq .leaf (.sq (.sq .leaf (.cn (.sq .leaf .leaf) .leaf)) (.sq .leaf .leaf)))
theorem f140.calls {Z : List PanicEntry → World → Prop} {x0 : Value} {w : World} {Q : Value → World → Prop} (h : f140.sh Z x0 w Q) : CallV Tryz.prog Z 140 #[x0] w Q :=
 cl Tryz.func140 f140.an [x0] (by kernel_rfl) (by kernel_rfl) h

def f141.sh (Z : List PanicEntry → World → Prop) (x0 : Value) (w : World) (Q : Value → World → Prop) : Prop :=
 CallV Tryz.prog Z 91 #[x0, (.int .i64 4)] w fun t1 w =>
 run1 Tryz.prog Z (convert 113 21 t1) w fun t2 w =>
 Q t2 w
def f141.an : An := (.sq .leaf (.sq .leaf .leaf))
theorem f141.calls {Z : List PanicEntry → World → Prop} {x0 : Value} {w : World} {Q : Value → World → Prop} (h : f141.sh Z x0 w Q) : CallV Tryz.prog Z 141 #[x0] w Q :=
 cl Tryz.func141 f141.an [x0] (by kernel_rfl) (by kernel_rfl) h

def f142.sh (Z : List PanicEntry → World → Prop) (x0 x1 x2 : Value) (w : World) (Q : Value → World → Prop) : Prop :=
 runX Tryz.prog Z (nilChk x0) w fun t1 w =>
 run1 Tryz.prog Z (Instr.fieldAt 124 t1 1) w fun t2 w =>
 run0 Tryz.prog Z (Instr.storeAt 30 t2 x1) w fun w =>
 runX Tryz.prog Z (nilChk x0) w fun t3 w =>
 run1 Tryz.prog Z (Instr.fieldAt 124 t3 2) w fun t4 w =>
 run0 Tryz.prog Z (Instr.storeAt 42 t4 x2) w fun w =>
 Q (Value.tuple #[]) w
def f142.an : An := .leaf
theorem f142.calls {Z : List PanicEntry → World → Prop} {x0 x1 x2 : Value} {w : World} {Q : Value → World → Prop} (h : f142.sh Z x0 x1 x2 w Q) : CallV Tryz.prog Z 142 #[x0, x1, x2] w Q :=
 cl Tryz.func142 f142.an [x0, x1, x2] (by kernel_rfl) (by kernel_rfl) h

def f143.sh (Z : List PanicEntry → World → Prop) (x0 x1 : Value) (w : World) (Q : Value → World → Prop) : Prop :=
 run1 Tryz.prog Z (convert 30 9 x0) w fun t1 w =>
 run1 Tryz.prog Z (convert 30 9 x1) w fun t2 w =>
 run1 Tryz.prog Z (eqOp .eql 9 false false t1 t2) w fun t3 w =>
 Q t3 w
def f143.an : An := (.sq .leaf (.sq .leaf .leaf))
theorem f143.calls {Z : List PanicEntry → World → Prop} {x0 x1 : Value} {w : World} {Q : Value → World → Prop} (h : f143.sh Z x0 x1 w Q) : CallV Tryz.prog Z 143 #[x0, x1] w Q :=
 cl Tryz.func143 f143.an [x0, x1] (by kernel_rfl) (by kernel_rfl) h

def f144.sh (Z : List PanicEntry → World → Prop) (x0 x1 : Value) (w : World) (Q : Value → World → Prop) : Prop :=
 run1 Tryz.prog Z (Builtin.len_ #[31] 3 #[x0]) w fun t1 w =>
 run1 Tryz.prog Z (Builtin.len_ #[31] 3 #[x1]) w fun t2 w =>
 run1 Tryz.prog Z (eqOp .neq 3 false false t1 t2) w fun t3 w =>
 CondV t3 (
 Q (.bool false) w) (
 run1 Tryz.prog Z (Builtin.len_ #[31] 3 #[x0]) w fun t4 w =>
 ∃ J_5 : Nat → Value → World → Prop, (∃ m, J_5 m (.int .i64 0) w) ∧
 ∀ m_5, ∀ t6 : Value, ∀ w : World, J_5 m_5 t6 w → Env →
 run1 Tryz.prog Z (binOp .lss 3 t6 t4) w fun t7 w =>
 CondV t7 (
 Drawn w fun w =>
 Pure1 Tryz.prog (Instr.indexAt 31 x0 t6) fun t8 =>
 Read1 Tryz.prog (Instr.loadAt 145 t8) w fun t9 =>
 Pure1 Tryz.prog (Instr.indexAt 31 x1 t6) fun t10 =>
 Read1 Tryz.prog (Instr.loadAt 145 t10) w fun t11 =>
 Pure1 Tryz.prog (eqOp .neq 145 false false t9 t11) fun t12 =>
 CondV t12 (
 Q (.bool false) w) (
 run1 Tryz.prog Z (binOp .add 3 t6 (.int .i64 1)) w fun t13 w =>
 ∃ n_5, n_5 < m_5 ∧ J_5 n_5 t13 w)) (
 Q (.bool true) w))
def f144.an : An := (.sq .leaf (.sq (.sq .leaf (.cn (.sq .leaf .leaf) .leaf)) (.sq (.sq .leaf (.bl (.lp [13] (.sq .leaf (.sq (.cn .leaf .leaf) (.sq (.bl (.sq .leaf (.sq (.dr (pl [0, 4, 8, 13, 16, 20, 24, 29, 32] .fin)) (.cn (.sq .leaf .leaf) .leaf)))) .leaf)))))) (.sq .leaf .leaf))))
theorem f144.calls {Z : List PanicEntry → World → Prop} {x0 x1 : Value} {w : World} {Q : Value → World → Prop} (h : f144.sh Z x0 x1 w Q) : CallV Tryz.prog Z 144 #[x0, x1] w Q :=
 cl Tryz.func144 f144.an [x0, x1] (by kernel_rfl) (by kernel_rfl) h

def f145.sh (Z : List PanicEntry → World → Prop) (x0 x1 : Value) (w : World) (Q : Value → World → Prop) : Prop :=
 run1 Tryz.prog Z (Builtin.len_ #[32] 3 #[x0]) w fun t1 w =>
 run1 Tryz.prog Z (Builtin.len_ #[32] 3 #[x1]) w fun t2 w =>
 run1 Tryz.prog Z (eqOp .neq 3 false false t1 t2) w fun t3 w =>
 CondV t3 (
 Q (.bool false) w) (
 run1 Tryz.prog Z (Builtin.len_ #[32] 3 #[x0]) w fun t4 w =>
 ∃ J_5 : Nat → Value → World → Prop, (∃ m, J_5 m (.int .i64 0) w) ∧
 ∀ m_5, ∀ t6 : Value, ∀ w : World, J_5 m_5 t6 w → Env →
 run1 Tryz.prog Z (binOp .lss 3 t6 t4) w fun t7 w =>
 CondV t7 (
 Drawn w fun w =>
 Pure1 Tryz.prog (Instr.indexAt 32 x0 t6) fun t8 =>
 Read1 Tryz.prog (Instr.loadAt 143 t8) w fun t9 =>
 Pure1 Tryz.prog (Instr.indexAt 32 x1 t6) fun t10 =>
 Read1 Tryz.prog (Instr.loadAt 143 t10) w fun t11 =>
 Pure1 Tryz.prog (eqOp .neq 143 false false t9 t11) fun t12 =>
 CondV t12 (
 Q (.bool false) w) (
 run1 Tryz.prog Z (binOp .add 3 t6 (.int .i64 1)) w fun t13 w =>
 ∃ n_5, n_5 < m_5 ∧ J_5 n_5 t13 w)) (
 Q (.bool true) w))
def f145.an : An := (.sq .leaf (.sq (.sq .leaf (.cn (.sq .leaf .leaf) .leaf)) (.sq (.sq .leaf (.bl (.lp [13] (.sq .leaf (.sq (.cn .leaf .leaf) (.sq (.bl (.sq .leaf (.sq (.dr (pl [0, 4, 8, 13, 16, 20, 24, 29, 32] .fin)) (.cn (.sq .leaf .leaf) .leaf)))) .leaf)))))) (.sq .leaf .leaf))))
theorem f145.calls {Z : List PanicEntry → World → Prop} {x0 x1 : Value} {w : World} {Q : Value → World → Prop} (h : f145.sh Z x0 x1 w Q) : CallV Tryz.prog Z 145 #[x0, x1] w Q :=
 cl Tryz.func145 f145.an [x0, x1] (by kernel_rfl) (by kernel_rfl) h

def f146.sh (Z : List PanicEntry → World → Prop) (x0 x1 x2 : Value) (w : World) (Q : Value → World → Prop) : Prop :=
 run1 Tryz.prog Z (Builtin.len_ #[33] 3 #[x0]) w fun t1 w =>
 run1 Tryz.prog Z (Builtin.len_ #[33] 3 #[x1]) w fun t2 w =>
 run1 Tryz.prog Z (eqOp .neq 3 false false t1 t2) w fun t3 w =>
 CondV t3 (
 Q (.bool false) w) (
 run1 Tryz.prog Z (Builtin.len_ #[33] 3 #[x0]) w fun t4 w =>
 ∃ J_5 : Nat → Value → World → Prop, (∃ m, J_5 m (.int .i64 0) w) ∧
 ∀ m_5, ∀ t6 : Value, ∀ w : World, J_5 m_5 t6 w → Env →
 run1 Tryz.prog Z (binOp .lss 3 t6 t4) w fun t7 w =>
 CondV t7 (
 run1 Tryz.prog Z (Instr.indexAt 33 x0 t6) w fun t8 w =>
 run1 Tryz.prog Z (Instr.loadAt 35 t8) w fun t9 w =>
 run1 Tryz.prog Z (Instr.alloc 35 true (.tuple #[])) w fun t10 w =>
 run0 Tryz.prog Z (Instr.storeAt 35 t10 t9) w fun w =>
 run1 Tryz.prog Z (Instr.indexAt 33 x1 t6) w fun t11 w =>
 run1 Tryz.prog Z (Instr.loadAt 35 t11) w fun t12 w =>
 run1 Tryz.prog Z (Instr.alloc 35 true (.tuple #[])) w fun t13 w =>
 run0 Tryz.prog Z (Instr.storeAt 35 t13 t12) w fun w =>
 run1 Tryz.prog Z (Instr.loadAt 35 t10) w fun t14 w =>
 run1 Tryz.prog Z (Instr.loadAt 35 t13) w fun t15 w =>
 runX Tryz.prog Z (callVal x2 #[t14, t15]) w fun t16 w =>
 run1 Tryz.prog Z (Op.unary .not t16) w fun t17 w =>
 CondV t17 (
 Q (.bool false) w) (
 run1 Tryz.prog Z (binOp .add 3 t6 (.int .i64 1)) w fun t18 w =>
 ∃ n_5, n_5 < m_5 ∧ J_5 n_5 t18 w)) (
 Q (.bool true) w))
def f146.an : An := (.sq .leaf (.sq (.sq .leaf (.cn (.sq .leaf .leaf) .leaf)) (.sq (.sq .leaf (.bl (.lp [17] (.sq .leaf (.sq (.cn .leaf .leaf) (.sq (.bl (.sq .leaf (.sq .leaf (.sq .leaf (.cn (.sq .leaf .leaf) .leaf))))) .leaf)))))) (.sq .leaf .leaf))))
theorem f146.calls {Z : List PanicEntry → World → Prop} {x0 x1 x2 : Value} {w : World} {Q : Value → World → Prop} (h : f146.sh Z x0 x1 x2 w Q) : CallV Tryz.prog Z 146 #[x0, x1, x2] w Q :=
 cl Tryz.func146 f146.an [x0, x1, x2] (by kernel_rfl) (by kernel_rfl) h

def f147.sh (Z : List PanicEntry → World → Prop) (x0 x1 : Value) (w : World) (Q : Value → World → Prop) : Prop :=
 run1 Tryz.prog Z (Instr.box 149 x0) w fun t1 w =>
 run1 Tryz.prog Z (Instr.fieldAt 149 t1 0) w fun t2 w =>
 run1 Tryz.prog Z (Instr.loadAt 4 t2) w fun t3 w =>
 CondV t3 (
 run1 Tryz.prog Z (Instr.indexAt 173 (.pointer (some ⟨1, 0, none⟩)) x1) w fun t4 w =>
 run1 Tryz.prog Z (Instr.loadAt 121 t4) w fun t5 w =>
 run1 Tryz.prog Z (binOp .andNot 121 t5 (.int .u64 160)) w fun t6 w =>
 Q t6 w) (
 run1 Tryz.prog Z (Instr.indexAt 173 (.pointer (some ⟨1, 0, none⟩)) x1) w fun t7 w =>
 run1 Tryz.prog Z (Instr.loadAt 121 t7) w fun t8 w =>
 Q t8 w)
def f147.an : An := (.sq .leaf (.sq (.sq .leaf (.cn (.sq .leaf .leaf) .leaf)) (.sq .leaf .leaf)))
theorem f147.calls {Z : List PanicEntry → World → Prop} {x0 x1 : Value} {w : World} {Q : Value → World → Prop} (h : f147.sh Z x0 x1 w Q) : CallV Tryz.prog Z 147 #[x0, x1] w Q :=
 cl Tryz.func147 f147.an [x0, x1] (by kernel_rfl) (by kernel_rfl) h

def f148.sh (Z : List PanicEntry → World → Prop) (x0 x1 : Value) (w : World) (Q : Value → World → Prop) : Prop :=
 run1 Tryz.prog Z (eqOp .eql 73 false true x0 (.pointer none)) w fun t1 w =>
 CondV t1 (
 Q (Value.tuple #[]) w) (
 run1 Tryz.prog Z (Builtin.len_ #[9] 3 #[x1]) w fun t2 w =>
 run1 Tryz.prog Z (convert 3 21 t2) w fun t3 w =>
 CallV Tryz.prog Z 126 #[x0, t3] w fun t4 w =>
 runX Tryz.prog Z (nilChk x0) w fun t5 w =>
 run1 Tryz.prog Z (Instr.fieldAt 75 t5 0) w fun t6 w =>
 run1 Tryz.prog Z (Instr.loadAt 30 t6) w fun t7 w =>
 run1 Tryz.prog Z (Builtin.append_ #[30, 9] 30 #[t7, x1]) w fun t8 w =>
 runX Tryz.prog Z (nilChk x0) w fun t9 w =>
 run1 Tryz.prog Z (Instr.fieldAt 75 t9 0) w fun t10 w =>
 run0 Tryz.prog Z (Instr.storeAt 30 t10 t8) w fun w =>
 Q (Value.tuple #[]) w)
def f148.an : An := (.sq (.sq .leaf (.cn .leaf .leaf)) (.sq .leaf .leaf))
theorem f148.calls {Z : List PanicEntry → World → Prop} {x0 x1 : Value} {w : World} {Q : Value → World → Prop} (h : f148.sh Z x0 x1 w Q) : CallV Tryz.prog Z 148 #[x0, x1] w Q :=
 cl Tryz.func148 f148.an [x0, x1] (by kernel_rfl) (by kernel_rfl) h

def f149.sh (Z : List PanicEntry → World → Prop) (x0 x1 x2 : Value) (w : World) (Q : Value → World → Prop) : Prop :=
 run1 Tryz.prog Z (eqOp .eql 73 false true x0 (.pointer none)) w fun t1 w =>
 CondV t1 (
 Q (Value.tuple #[]) w) (
 run1 Tryz.prog Z (Builtin.len_ #[31] 3 #[x1]) w fun t2 w =>
 run1 Tryz.prog Z (convert 3 21 t2) w fun t3 w =>
 CallV Tryz.prog Z 126 #[x0, t3] w fun t4 w =>
 run1 Tryz.prog Z (eqOp .eql 160 false true x2 .nilFunc) w fun t5 w =>
 CondV t5 (
 Q (Value.tuple #[]) w) (
 run1 Tryz.prog Z (Builtin.len_ #[31] 3 #[x1]) w fun t6 w =>
 ∃ J_7 : Nat → Value → World → Prop, (∃ m, J_7 m (.int .i64 0) w) ∧
 ∀ m_7, ∀ t8 : Value, ∀ w : World, J_7 m_7 t8 w → Env →
 run1 Tryz.prog Z (binOp .lss 3 t8 t6) w fun t9 w =>
 CondV t9 (
 run1 Tryz.prog Z (Instr.indexAt 31 x1 t8) w fun t10 w =>
 run1 Tryz.prog Z (Instr.loadAt 145 t10) w fun t11 w =>
 run1 Tryz.prog Z (Instr.alloc 145 true (.tuple #[])) w fun t12 w =>
 run0 Tryz.prog Z (Instr.storeAt 145 t12 t11) w fun w =>
 run1 Tryz.prog Z (Instr.loadAt 145 t12) w fun t13 w =>
 runX Tryz.prog Z (callVal x2 #[x0, t13]) w fun t14 w =>
 run1 Tryz.prog Z (binOp .add 3 t8 (.int .i64 1)) w fun t15 w =>
 ∃ n_7, n_7 < m_7 ∧ J_7 n_7 t15 w) (
 Q (Value.tuple #[]) w)))
def f149.an : An := (.sq (.sq .leaf (.cn .leaf .leaf)) (.sq .leaf (.sq (.sq .leaf (.cn .leaf .leaf)) (.sq .leaf (.bl (.lp [19] (.sq .leaf (.sq (.cn .leaf .leaf) (.sq (.bl (.sq .leaf .leaf)) .leaf)))))))))
theorem f149.calls {Z : List PanicEntry → World → Prop} {x0 x1 x2 : Value} {w : World} {Q : Value → World → Prop} (h : f149.sh Z x0 x1 x2 w Q) : CallV Tryz.prog Z 149 #[x0, x1, x2] w Q :=
 cl Tryz.func149 f149.an [x0, x1, x2] (by kernel_rfl) (by kernel_rfl) h

def f150.sh (Z : List PanicEntry → World → Prop) (x0 x1 : Value) (w : World) (Q : Value → World → Prop) : Prop :=
 run1 Tryz.prog Z (Instr.box 145 x1) w fun t1 w =>
 run1 Tryz.prog Z (Instr.fieldAt 145 t1 0) w fun t2 w =>
 run1 Tryz.prog Z (Instr.loadAt 22 t2) w fun t3 w =>
 CallV Tryz.prog Z 28 #[x0, t3] w fun t4 w =>
 run1 Tryz.prog Z (Instr.fieldAt 145 t1 1) w fun t5 w =>
 run1 Tryz.prog Z (Instr.loadAt 143 t5) w fun t6 w =>
 CallV Tryz.prog Z 152 #[x0, t6] w fun t7 w =>
 Q (Value.tuple #[]) w
def f150.an : An := (.sq .leaf (.sq .leaf .leaf))
theorem f150.calls {Z : List PanicEntry → World → Prop} {x0 x1 : Value} {w : World} {Q : Value → World → Prop} (h : f150.sh Z x0 x1 w Q) : CallV Tryz.prog Z 150 #[x0, x1] w Q :=
 cl Tryz.func150 f150.an [x0, x1] (by kernel_rfl) (by kernel_rfl) h

def f151.sh (Z : List PanicEntry → World → Prop) (x0 x1 x2 : Value) (w : World) (Q : Value → World → Prop) : Prop :=
 run1 Tryz.prog Z (eqOp .eql 73 false true x0 (.pointer none)) w fun t1 w =>
 CondV t1 (
 Q (Value.tuple #[]) w) (
 run1 Tryz.prog Z (Builtin.len_ #[32] 3 #[x1]) w fun t2 w =>
 run1 Tryz.prog Z (convert 3 21 t2) w fun t3 w =>
 CallV Tryz.prog Z 126 #[x0, t3] w fun t4 w =>
 run1 Tryz.prog Z (eqOp .eql 162 false true x2 .nilFunc) w fun t5 w =>
 CondV t5 (
 Q (Value.tuple #[]) w) (
 run1 Tryz.prog Z (Builtin.len_ #[32] 3 #[x1]) w fun t6 w =>
 ∃ J_7 : Nat → Value → World → Prop, (∃ m, J_7 m (.int .i64 0) w) ∧
 ∀ m_7, ∀ t8 : Value, ∀ w : World, J_7 m_7 t8 w → Env →
 run1 Tryz.prog Z (binOp .lss 3 t8 t6) w fun t9 w =>
 CondV t9 (
 run1 Tryz.prog Z (Instr.indexAt 32 x1 t8) w fun t10 w =>
 run1 Tryz.prog Z (Instr.loadAt 143 t10) w fun t11 w =>
 run1 Tryz.prog Z (Instr.alloc 143 true (.tuple #[])) w fun t12 w =>
 run0 Tryz.prog Z (Instr.storeAt 143 t12 t11) w fun w =>
 run1 Tryz.prog Z (Instr.loadAt 143 t12) w fun t13 w =>
 runX Tryz.prog Z (callVal x2 #[x0, t13]) w fun t14 w =>
 run1 Tryz.prog Z (binOp .add 3 t8 (.int .i64 1)) w fun t15 w =>
 ∃ n_7, n_7 < m_7 ∧ J_7 n_7 t15 w) (
 Q (Value.tuple #[]) w)))
def f151.an : An := (.sq (.sq .leaf (.cn .leaf .leaf)) (.sq .leaf (.sq (.sq .leaf (.cn .leaf .leaf)) (.sq .leaf (.bl (.lp [19] (.sq .leaf (.sq (.cn .leaf .leaf) (.sq (.bl (.sq .leaf .leaf)) .leaf)))))))))
theorem f151.calls {Z : List PanicEntry → World → Prop} {x0 x1 x2 : Value} {w : World} {Q : Value → World → Prop} (h : f151.sh Z x0 x1 x2 w Q) : CallV Tryz.prog Z 151 #[x0, x1, x2] w Q :=
 cl Tryz.func151 f151.an [x0, x1, x2] (by kernel_rfl) (by kernel_rfl) h

def f152.sh (Z : List PanicEntry → World → Prop) (x0 x1 : Value) (w : World) (Q : Value → World → Prop) : Prop :=
 run1 Tryz.prog Z (Instr.box 143 x1) w fun t1 w =>
 run1 Tryz.prog Z (Instr.fieldAt 143 t1 0) w fun t2 w =>
 run1 Tryz.prog Z (Instr.loadAt 9 t2) w fun t3 w =>
 CallV Tryz.prog Z 148 #[x0, t3] w fun t4 w =>
 run1 Tryz.prog Z (Instr.fieldAt 143 t1 1) w fun t5 w =>
 run1 Tryz.prog Z (Instr.loadAt 9 t5) w fun t6 w =>
 CallV Tryz.prog Z 148 #[x0, t6] w fun t7 w =>
 Q (Value.tuple #[]) w
def f152.an : An := (.sq .leaf (.sq .leaf .leaf))
theorem f152.calls {Z : List PanicEntry → World → Prop} {x0 x1 : Value} {w : World} {Q : Value → World → Prop} (h : f152.sh Z x0 x1 w Q) : CallV Tryz.prog Z 152 #[x0, x1] w Q :=
 cl Tryz.func152 f152.an [x0, x1] (by kernel_rfl) (by kernel_rfl) h

def f153.sh (Z : List PanicEntry → World → Prop) (x0 x1 x2 : Value) (w : World) (Q : Value → World → Prop) : Prop :=
 run1 Tryz.prog Z (eqOp .eql 73 false true x0 (.pointer none)) w fun t1 w =>
 CondV t1 (
 Q (Value.tuple #[]) w) (
 run1 Tryz.prog Z (Builtin.len_ #[33] 3 #[x1]) w fun t2 w =>
 run1 Tryz.prog Z (convert 3 21 t2) w fun t3 w =>
 CallV Tryz.prog Z 126 #[x0, t3] w fun t4 w =>
 run1 Tryz.prog Z (eqOp .eql 150 false true x2 .nilFunc) w fun t5 w =>
 CondV t5 (
 Q (Value.tuple #[]) w) (
 run1 Tryz.prog Z (Builtin.len_ #[33] 3 #[x1]) w fun t6 w =>
 ∃ J_7 : Nat → Value → World → Prop, (∃ m, J_7 m (.int .i64 0) w) ∧
 ∀ m_7, ∀ t8 : Value, ∀ w : World, J_7 m_7 t8 w → Env →
 run1 Tryz.prog Z (binOp .lss 3 t8 t6) w fun t9 w =>
 CondV t9 (
 run1 Tryz.prog Z (Instr.indexAt 33 x1 t8) w fun t10 w =>
 run1 Tryz.prog Z (Instr.loadAt 35 t10) w fun t11 w =>
 run1 Tryz.prog Z (Instr.alloc 35 true (.tuple #[])) w fun t12 w =>
 run0 Tryz.prog Z (Instr.storeAt 35 t12 t11) w fun w =>
 run1 Tryz.prog Z (Instr.loadAt 35 t12) w fun t13 w =>
 runX Tryz.prog Z (callVal x2 #[x0, t13]) w fun t14 w =>
 run1 Tryz.prog Z (binOp .add 3 t8 (.int .i64 1)) w fun t15 w =>
 ∃ n_7, n_7 < m_7 ∧ J_7 n_7 t15 w) (
 Q (Value.tuple #[]) w)))
def f153.an : An := (.sq (.sq .leaf (.cn .leaf .leaf)) (.sq .leaf (.sq (.sq .leaf (.cn .leaf .leaf)) (.sq .leaf (.bl (.lp [19] (.sq .leaf (.sq (.cn .leaf .leaf) (.sq (.bl (.sq .leaf .leaf)) .leaf)))))))))
theorem f153.calls {Z : List PanicEntry → World → Prop} {x0 x1 x2 : Value} {w : World} {Q : Value → World → Prop} (h : f153.sh Z x0 x1 x2 w Q) : CallV Tryz.prog Z 153 #[x0, x1, x2] w Q :=
 cl Tryz.func153 f153.an [x0, x1, x2] (by kernel_rfl) (by kernel_rfl) h

def f154.sh (Z : List PanicEntry → World → Prop) (x0 : Value) (w : World) (Q : Value → World → Prop) : Prop :=
 run1 Tryz.prog Z (binOp .geq 22 x0 (.int .i8 1)) w fun t1 w =>
 guardW (t1) true (fun k => k (x0) w) (fun t2 w =>
 guardW (t1) true (fun k => run1 Tryz.prog Z (binOp .leq 22 t2 (.int .i8 12)) w k) (fun t3 w =>
 run1 Tryz.prog Z (pickV t1 t3 (.bool false)) w fun t4 w =>
 Q t4 w) w) w
def f154.an : An := (.sq .leaf (.sq .leaf .leaf))
theorem f154.calls {Z : List PanicEntry → World → Prop} {x0 : Value} {w : World} {Q : Value → World → Prop} (h : f154.sh Z x0 w Q) : CallV Tryz.prog Z 154 #[x0] w Q :=
 cl Tryz.func154 f154.an [x0] (by kernel_rfl) (by kernel_rfl) h

def f155.sh (Z : List PanicEntry → World → Prop) (x0 x1 : Value) (w : World) (Q : Value → World → Prop) : Prop :=
 CallV Tryz.prog Z 93 #[x0] w fun t1 w =>
 CondV t1 (
 runX Tryz.prog Z (nilChk x0) w fun t2 w =>
 run1 Tryz.prog Z (Instr.fieldAt 124 t2 2) w fun t3 w =>
 run0 Tryz.prog Z (Instr.storeAt 42 t3 x1) w fun w =>
 Q (Value.tuple #[]) w) (
 Q (Value.tuple #[]) w)
def f155.an : An := (.sq .leaf (.cn .leaf .leaf))
theorem f155.calls {Z : List PanicEntry → World → Prop} {x0 x1 : Value} {w : World} {Q : Value → World → Prop} (h : f155.sh Z x0 x1 w Q) : CallV Tryz.prog Z 155 #[x0, x1] w Q :=
 cl Tryz.func155 f155.an [x0, x1] (by kernel_rfl) (by kernel_rfl) h

def f156.sh (Z : List PanicEntry → World → Prop) (x0 x1 : Value) (w : World) (Q : Value → World → Prop) : Prop :=
 CallV Tryz.prog Z 127 #[x0, x1] w fun t1 w =>
 run1 Tryz.prog Z (convert 30 9 t1) w fun t2 w =>
 Q t2 w
def f156.an : An := (.sq .leaf (.sq .leaf .leaf))
theorem f156.calls {Z : List PanicEntry → World → Prop} {x0 x1 : Value} {w : World} {Q : Value → World → Prop} (h : f156.sh Z x0 x1 w Q) : CallV Tryz.prog Z 156 #[x0, x1] w Q :=
 cl Tryz.func156 f156.an [x0, x1] (by kernel_rfl) (by kernel_rfl) h

def f157.sh (Z : List PanicEntry → World → Prop) (x0 x1 x2 : Value) (w : World) (Q : Value → World → Prop) : Prop :=
 CallV Tryz.prog Z 140 #[x0] w fun t1 w =>
 CallV Tryz.prog Z 141 #[x0] w fun t2 w =>
 run1 Tryz.prog Z (convert 21 3 t2) w fun t3 w =>
 CallV Tryz.prog Z 93 #[x0] w fun t4 w =>
 run1 Tryz.prog Z (Op.unary .not t4) w fun t5 w =>
 CondV t5 (
 Q (.slice none 0 0) w) (
 run1 Tryz.prog Z (binOp .lss 3 t3 (.int .i64 0)) w fun t6 w =>
 guardW (t6) false (fun k => k (t3) w) (fun t7 w =>
 guardW (t6) false (fun k => k (x1) w) (fun t8 w =>
 guardW (t6) false (fun k => run1 Tryz.prog Z (binOp .gtr 3 t7 t8) w k) (fun t9 w =>
 run1 Tryz.prog Z (pickV t6 (.bool true) t9) w fun t10 w =>
 CondV t10 (
 CallV Tryz.prog Z 142 #[x0, t1, (.int .i64 11)] w fun t11 w =>
 Q (.slice none 0 0) w) (
 runX Tryz.prog Z (nilChk x0) w fun t12 w =>
 run1 Tryz.prog Z (Instr.fieldAt 124 t12 1) w fun t13 w =>
 run1 Tryz.prog Z (Instr.loadAt 30 t13) w fun t14 w =>
 run1 Tryz.prog Z (Builtin.len_ #[30] 3 #[t14]) w fun t15 w =>
 run1 Tryz.prog Z (binOp .gtr 3 t3 t15) w fun t16 w =>
 CondV t16 (
 CallV Tryz.prog Z 142 #[x0, t1, (.int .i64 10)] w fun t17 w =>
 Q (.slice none 0 0) w) (
 run1 Tryz.prog Z (eqOp .eql 167 false true x2 .nilFunc) w fun t18 w =>
 CondV t18 (
 run1 Tryz.prog Z (Instr.makeSlice 31 t3 t3) w fun t19 w =>
 Q t19 w) (
 ∃ J_20 : Nat → Value → Value → World → Prop, (∃ m, J_20 m (.slice none 0 0) (.int .i64 0) w) ∧
 ∀ m_20, ∀ t21 : Value, ∀ t22 : Value, ∀ w : World, J_20 m_20 t21 t22 w → Env →
 run1 Tryz.prog Z (binOp .lss 3 t22 t3) w fun t23 w =>
 CondV t23 (
 runX Tryz.prog Z (callVal x2 #[x0]) w fun t24 w =>
 run1 Tryz.prog Z (Instr.alloc 145 true (.tuple #[])) w fun t25 w =>
 run0 Tryz.prog Z (Instr.storeAt 145 t25 t24) w fun w =>
 CallV Tryz.prog Z 93 #[x0] w fun t26 w =>
 run1 Tryz.prog Z (Op.unary .not t26) w fun t27 w =>
 CondV t27 (
 Q (.slice none 0 0) w) (
 run1 Tryz.prog Z (Instr.loadAt 145 t25) w fun t28 w =>
 run1 Tryz.prog Z (Instr.buildSlice 31 1 #[(0, t28)]) w fun t29 w =>
 run1 Tryz.prog Z (Builtin.append_ #[31, 31] 31 #[t21, t29]) w fun t30 w =>
 run1 Tryz.prog Z (binOp .add 3 t22 (.int .i64 1)) w fun t31 w =>
 ∃ n_20, n_20 < m_20 ∧ J_20 n_20 t30 t31 w)) (
 Q t21 w))))) w) w) w)
def f157.an : An := (.sq .leaf (.sq .leaf (.sq .leaf (.sq (.sq .leaf (.cn (.sq .leaf .leaf) .leaf)) (.sq (.bl (.sq .leaf (.cn (.sq .leaf (.sq .leaf .leaf)) (.sq .leaf (.cn (.sq .leaf (.sq .leaf .leaf)) .leaf))))) (.sq (.sq .leaf (.cn (.sq .leaf .leaf) .leaf)) (.sq .leaf (.sq (.sq .leaf (.bl (.lp [9, 46] (.sq .leaf (.sq (.cn .leaf .leaf) (.sq (.bl (.sq .leaf (.sq (.sq .leaf (.cn (.sq .leaf .leaf) .leaf)) .leaf))) .leaf)))))) (.sq .leaf .leaf)))))))))
theorem f157.calls {Z : List PanicEntry → World → Prop} {x0 x1 x2 : Value} {w : World} {Q : Value → World → Prop} (h : f157.sh Z x0 x1 x2 w Q) : CallV Tryz.prog Z 157 #[x0, x1, x2] w Q :=
 cl Tryz.func157 f157.an [x0, x1, x2] (by kernel_rfl) (by kernel_rfl) h

def f158.sh (Z : List PanicEntry → World → Prop) (x0 : Value) (w : World) (Q : Value → World → Prop) : Prop :=
 run1 Tryz.prog Z (Instr.alloc 145 true (.tuple #[])) w fun t1 w =>
 CallV Tryz.prog Z 47 #[x0] w fun t2 w =>
 CallV Tryz.prog Z 160 #[x0] w fun t3 w =>
 run1 Tryz.prog Z (Instr.build 145 #[(0, t2), (1, t3)]) w fun t4 w =>
 run0 Tryz.prog Z (Instr.storeAt 145 t1 t4) w fun w =>
 ∃ r_5, (do loadVar 145 (← asAddr t1) : Sem Value).run Tryz.prog w = .ok r_5 w ∧
 Q r_5 w
def f158.an : An := (.sq .leaf (.sq .leaf (.sq .leaf .leaf)))
theorem f158.calls {Z : List PanicEntry → World → Prop} {x0 : Value} {w : World} {Q : Value → World → Prop} (h : f158.sh Z x0 w Q) : CallV Tryz.prog Z 158 #[x0] w Q :=
 cl Tryz.func158 f158.an [x0] (by kernel_rfl) (by kernel_rfl) h

def f159.sh (Z : List PanicEntry → World → Prop) (x0 x1 x2 : Value) (w : World) (Q : Value → World → Prop) : Prop :=
 CallV Tryz.prog Z 140 #[x0] w fun t1 w =>
 CallV Tryz.prog Z 141 #[x0] w fun t2 w =>
 run1 Tryz.prog Z (convert 21 3 t2) w fun t3 w =>
 CallV Tryz.prog Z 93 #[x0] w fun t4 w =>
 run1 Tryz.prog Z (Op.unary .not t4) w fun t5 w =>
 CondV t5 (
 Q (.slice none 0 0) w) (
 run1 Tryz.prog Z (binOp .lss 3 t3 (.int .i64 0)) w fun t6 w =>
 guardW (t6) false (fun k => k (t3) w) (fun t7 w =>
 guardW (t6) false (fun k => k (x1) w) (fun t8 w =>
 guardW (t6) false (fun k => run1 Tryz.prog Z (binOp .gtr 3 t7 t8) w k) (fun t9 w =>
 run1 Tryz.prog Z (pickV t6 (.bool true) t9) w fun t10 w =>
 CondV t10 (
 CallV Tryz.prog Z 142 #[x0, t1, (.int .i64 11)] w fun t11 w =>
 Q (.slice none 0 0) w) (
 runX Tryz.prog Z (nilChk x0) w fun t12 w =>
 run1 Tryz.prog Z (Instr.fieldAt 124 t12 1) w fun t13 w =>
 run1 Tryz.prog Z (Instr.loadAt 30 t13) w fun t14 w =>
 run1 Tryz.prog Z (Builtin.len_ #[30] 3 #[t14]) w fun t15 w =>
 run1 Tryz.prog Z (binOp .gtr 3 t3 t15) w fun t16 w =>
 CondV t16 (
 CallV Tryz.prog Z 142 #[x0, t1, (.int .i64 10)] w fun t17 w =>
 Q (.slice none 0 0) w) (
 run1 Tryz.prog Z (eqOp .eql 169 false true x2 .nilFunc) w fun t18 w =>
 CondV t18 (
 run1 Tryz.prog Z (Instr.makeSlice 32 t3 t3) w fun t19 w =>
 Q t19 w) (
 ∃ J_20 : Nat → Value → Value → World → Prop, (∃ m, J_20 m (.slice none 0 0) (.int .i64 0) w) ∧
 ∀ m_20, ∀ t21 : Value, ∀ t22 : Value, ∀ w : World, J_20 m_20 t21 t22 w → Env →
 run1 Tryz.prog Z (binOp .lss 3 t22 t3) w fun t23 w =>
 CondV t23 (
 runX Tryz.prog Z (callVal x2 #[x0]) w fun t24 w =>
 run1 Tryz.prog Z (Instr.alloc 143 true (.tuple #[])) w fun t25 w =>
 run0 Tryz.prog Z (Instr.storeAt 143 t25 t24) w fun w =>
 CallV Tryz.prog Z 93 #[x0] w fun t26 w =>
 run1 Tryz.prog Z (Op.unary .not t26) w fun t27 w =>
 CondV t27 (
 Q (.slice none 0 0) w) (
 run1 Tryz.prog Z (Instr.loadAt 143 t25) w fun t28 w =>
 run1 Tryz.prog Z (Instr.buildSlice 32 1 #[(0, t28)]) w fun t29 w =>
 run1 Tryz.prog Z (Builtin.append_ #[32, 32] 32 #[t21, t29]) w fun t30 w =>
 run1 Tryz.prog Z (binOp .add 3 t22 (.int .i64 1)) w fun t31 w =>
 ∃ n_20, n_20 < m_20 ∧ J_20 n_20 t30 t31 w)) (
 Q t21 w))))) w) w) w)
def f159.an : An := (.sq .leaf (.sq .leaf (.sq .leaf (.sq (.sq .leaf (.cn (.sq .leaf .leaf) .leaf)) (.sq (.bl (.sq .leaf (.cn (.sq .leaf (.sq .leaf .leaf)) (.sq .leaf (.cn (.sq .leaf (.sq .leaf .leaf)) .leaf))))) (.sq (.sq .leaf (.cn (.sq .leaf .leaf) .leaf)) (.sq .leaf (.sq (.sq .leaf (.bl (.lp [9, 46] (.sq .leaf (.sq (.cn .leaf .leaf) (.sq (.bl (.sq .leaf (.sq (.sq .leaf (.cn (.sq .leaf .leaf) .leaf)) .leaf))) .leaf)))))) (.sq .leaf .leaf)))))))))
theorem f159.calls {Z : List PanicEntry → World → Prop} {x0 x1 x2 : Value} {w : World} {Q : Value → World → Prop} (h : f159.sh Z x0 x1 x2 w Q) : CallV Tryz.prog Z 159 #[x0, x1, x2] w Q :=
 cl Tryz.func159 f159.an [x0, x1, x2] (by kernel_rfl) (by kernel_rfl) h

def f160.sh (Z : List PanicEntry → World → Prop) (x0 : Value) (w : World) (Q : Value → World → Prop) : Prop :=
 run1 Tryz.prog Z (Instr.alloc 143 true (.tuple #[])) w fun t1 w =>
 CallV Tryz.prog Z 156 #[x0, (.int .i64 24)] w fun t2 w =>
 CallV Tryz.prog Z 156 #[x0, (.int .i64 24)] w fun t3 w =>
 run1 Tryz.prog Z (Instr.build 143 #[(0, t2), (1, t3)]) w fun t4 w =>
 run0 Tryz.prog Z (Instr.storeAt 143 t1 t4) w fun w =>
 ∃ r_5, (do loadVar 143 (← asAddr t1) : Sem Value).run Tryz.prog w = .ok r_5 w ∧
 Q r_5 w
def f160.an : An := (.sq .leaf (.sq .leaf (.sq .leaf .leaf)))
theorem f160.calls {Z : List PanicEntry → World → Prop} {x0 : Value} {w : World} {Q : Value → World → Prop} (h : f160.sh Z x0 w Q) : CallV Tryz.prog Z 160 #[x0] w Q :=
 cl Tryz.func160 f160.an [x0] (by kernel_rfl) (by kernel_rfl) h

def f161.sh (Z : List PanicEntry → World → Prop) (x0 x1 x2 : Value) (w : World) (Q : Value → World → Prop) : Prop :=
 CallV Tryz.prog Z 140 #[x0] w fun t1 w =>
 CallV Tryz.prog Z 141 #[x0] w fun t2 w =>
 run1 Tryz.prog Z (convert 21 3 t2) w fun t3 w =>
 CallV Tryz.prog Z 93 #[x0] w fun t4 w =>
 run1 Tryz.prog Z (Op.unary .not t4) w fun t5 w =>
 CondV t5 (
 Q (.slice none 0 0) w) (
 run1 Tryz.prog Z (binOp .lss 3 t3 (.int .i64 0)) w fun t6 w =>
 guardW (t6) false (fun k => k (t3) w) (fun t7 w =>
 guardW (t6) false (fun k => k (x1) w) (fun t8 w =>
 guardW (t6) false (fun k => run1 Tryz.prog Z (binOp .gtr 3 t7 t8) w k) (fun t9 w =>
 run1 Tryz.prog Z (pickV t6 (.bool true) t9) w fun t10 w =>
 CondV t10 (
 CallV Tryz.prog Z 142 #[x0, t1, (.int .i64 11)] w fun t11 w =>
 Q (.slice none 0 0) w) (
 runX Tryz.prog Z (nilChk x0) w fun t12 w =>
 run1 Tryz.prog Z (Instr.fieldAt 124 t12 1) w fun t13 w =>
 run1 Tryz.prog Z (Instr.loadAt 30 t13) w fun t14 w =>
 run1 Tryz.prog Z (Builtin.len_ #[30] 3 #[t14]) w fun t15 w =>
 run1 Tryz.prog Z (binOp .gtr 3 t3 t15) w fun t16 w =>
 CondV t16 (
 CallV Tryz.prog Z 142 #[x0, t1, (.int .i64 10)] w fun t17 w =>
 Q (.slice none 0 0) w) (
 run1 Tryz.prog Z (eqOp .eql 151 false true x2 .nilFunc) w fun t18 w =>
 CondV t18 (
 run1 Tryz.prog Z (Instr.makeSlice 33 t3 t3) w fun t19 w =>
 Q t19 w) (
 ∃ J_20 : Nat → Value → Value → World → Prop, (∃ m, J_20 m (.slice none 0 0) (.int .i64 0) w) ∧
 ∀ m_20, ∀ t21 : Value, ∀ t22 : Value, ∀ w : World, J_20 m_20 t21 t22 w → Env →
 run1 Tryz.prog Z (binOp .lss 3 t22 t3) w fun t23 w =>
 CondV t23 (
 runX Tryz.prog Z (callVal x2 #[x0]) w fun t24 w =>
 run1 Tryz.prog Z (Instr.alloc 35 true (.tuple #[])) w fun t25 w =>
 run0 Tryz.prog Z (Instr.storeAt 35 t25 t24) w fun w =>
 CallV Tryz.prog Z 93 #[x0] w fun t26 w =>
 run1 Tryz.prog Z (Op.unary .not t26) w fun t27 w =>
 CondV t27 (
 Q (.slice none 0 0) w) (
 run1 Tryz.prog Z (Instr.loadAt 35 t25) w fun t28 w =>
 run1 Tryz.prog Z (Instr.buildSlice 33 1 #[(0, t28)]) w fun t29 w =>
 run1 Tryz.prog Z (Builtin.append_ #[33, 33] 33 #[t21, t29]) w fun t30 w =>
 run1 Tryz.prog Z (binOp .add 3 t22 (.int .i64 1)) w fun t31 w =>
 ∃ n_20, n_20 < m_20 ∧ J_20 n_20 t30 t31 w)) (
 Q t21 w))))) w) w) w)
def f161.an : An := (.sq .leaf (.sq .leaf (.sq .leaf (.sq (.sq .leaf (.cn (.sq .leaf .leaf) .leaf)) (.sq (.bl (.sq .leaf (.cn (.sq .leaf (.sq .leaf .leaf)) (.sq .leaf (.cn (.sq .leaf (.sq .leaf .leaf)) .leaf))))) (.sq (.sq .leaf (.cn (.sq .leaf .leaf) .leaf)) (.sq .leaf (.sq (.sq .leaf (.bl (.lp [9, 46] (.sq .leaf (.sq (.cn .leaf .leaf) (.sq (.bl (.sq .leaf (.sq (.sq .leaf (.cn (.sq .leaf .leaf) .leaf)) .leaf))) .leaf)))))) (.sq .leaf .leaf)))))))))
theorem f161.calls {Z : List PanicEntry → World → Prop} {x0 x1 x2 : Value} {w : World} {Q : Value → World → Prop} (h : f161.sh Z x0 x1 x2 w Q) : CallV Tryz.prog Z 161 #[x0, x1, x2] w Q :=
 cl Tryz.func161 f161.an [x0, x1, x2] (by kernel_rfl) (by kernel_rfl) h

def f162.sh (Z : List PanicEntry → World → Prop) (x0 : Value) (w : World) (Q : Value → World → Prop) : Prop :=
 run1 Tryz.prog Z (Instr.box 35 x0) w fun t1 w =>
 run1 Tryz.prog Z (Instr.fieldAt 35 t1 0) w fun t2 w =>
 run1 Tryz.prog Z (Instr.loadAt 22 t2) w fun t3 w =>
 run1 Tryz.prog Z (Instr.indexAt 173 (.pointer (some ⟨1, 0, none⟩)) t3) w fun t4 w =>
 run1 Tryz.prog Z (Instr.loadAt 121 t4) w fun t5 w =>
 run1 Tryz.prog Z (Instr.alloc 121 true (.tuple #[])) w fun t6 w =>
 run0 Tryz.prog Z (Instr.storeAt 121 t6 t5) w fun w =>
 run1 Tryz.prog Z (Instr.makeFunc (.func 165) #[] #[t6]) w fun t7 w =>
 ∀ j_8 : World → Prop, (∀ w : World, (Env →
 run1 Tryz.prog Z (Instr.fieldAt 35 t1 3) w fun t9 w =>
 run1 Tryz.prog Z (Instr.loadAt 31 t9) w fun t10 w =>
 run1 Tryz.prog Z (Builtin.len_ #[31] 3 #[t10]) w fun t11 w =>
 ∃ J_12 : Nat → Value → World → Prop, (∃ m, J_12 m (.int .i64 0) w) ∧
 ∀ m_12, ∀ t13 : Value, ∀ w : World, J_12 m_12 t13 w → Env →
 run1 Tryz.prog Z (binOp .lss 3 t13 t11) w fun t14 w =>
 CondV t14 (
 run1 Tryz.prog Z (Instr.indexAt 31 t10 t13) w fun t15 w =>
 run1 Tryz.prog Z (Instr.loadAt 145 t15) w fun t16 w =>
 run1 Tryz.prog Z (Instr.alloc 145 true (.tuple #[])) w fun t17 w =>
 run0 Tryz.prog Z (Instr.storeAt 145 t17 t16) w fun w =>
 run1 Tryz.prog Z (Instr.fieldAt 145 t17 1) w fun t18 w =>
 run1 Tryz.prog Z (Instr.loadAt 143 t18) w fun t19 w =>
 CallV Tryz.prog Z 166 #[t19] w fun t20 w =>
 run1 Tryz.prog Z (Op.unary .not t20) w fun t21 w =>
 CondV t21 (
 Q (.bool false) w) (
 run1 Tryz.prog Z (binOp .add 3 t13 (.int .i64 1)) w fun t22 w =>
 ∃ n_12, n_12 < m_12 ∧ J_12 n_12 t22 w)) (
 run1 Tryz.prog Z (Instr.fieldAt 35 t1 9) w fun t23 w =>
 run1 Tryz.prog Z (Instr.loadAt 32 t23) w fun t24 w =>
 CallV Tryz.prog Z 167 #[t24, (.func (.func 168) #[] #[])] w fun t25 w =>
 run1 Tryz.prog Z (Op.unary .not t25) w fun t26 w =>
 Q t26 w)) →
 j_8 w) →
 ∀ j_27 : Value → World → Prop, (∀ t28 : Value, ∀ w : World, (Env →
 CondV t28 (
 Q (.bool false) w) (
 ∀ j_29 : Value → World → Prop, (∀ t30 : Value, ∀ w : World, (Env →
 CondV t30 (
 Q (.bool false) w) (
 ∀ j_31 : Value → World → Prop, (∀ t32 : Value, ∀ w : World, (Env →
 CondV t32 (
 Q (.bool false) w) (
 ∀ j_33 : Value → World → Prop, (∀ t34 : Value, ∀ w : World, (Env →
 CondV t34 (
 Q (.bool false) w) (
 j_8 w)) →
 j_33 t34 w) →
 run1 Tryz.prog Z (Instr.fieldAt 35 t1 7) w fun t35 w =>
 run1 Tryz.prog Z (Instr.loadAt 2 t35) w fun t36 w =>
 run1 Tryz.prog Z (binOp .lss 2 t36 (.int .i64 0)) w fun t37 w =>
 CondV t37 (
 j_33 t37 w) (
 run1 Tryz.prog Z (Instr.fieldAt 35 t1 0) w fun t38 w =>
 run1 Tryz.prog Z (Instr.loadAt 22 t38) w fun t39 w =>
 run1 Tryz.prog Z (eqOp .eql 22 false true t39 (.int .i8 8)) w fun t40 w =>
 guardW (t40) true (fun k => run1 Tryz.prog Z (Instr.fieldAt 35 t1 7) w k) (fun t41 w =>
 guardW (t40) true (fun k => run1 Tryz.prog Z (Instr.loadAt 2 t41) w k) (fun t42 w =>
 guardW (t40) true (fun k => run1 Tryz.prog Z (eqOp .eql 2 false true t42 (.int .i64 0)) w k) (fun t43 w =>
 run1 Tryz.prog Z (pickV t40 t43 (.bool false)) w fun t44 w =>
 CondV t44 (
 j_33 t44 w) (
 runX Tryz.prog Z (callVal t7 #[(.int .u64 64)]) w fun t45 w =>
 guardW (t45) true (fun k => run1 Tryz.prog Z (Instr.fieldAt 35 t1 8) w k) (fun t46 w =>
 guardW (t45) true (fun k => run1 Tryz.prog Z (Instr.loadAt 21 t46) w k) (fun t47 w =>
 guardW (t45) true (fun k => run1 Tryz.prog Z (binOp .lss 21 t47 (.int .i32 1)) w k) (fun t48 w =>
 guardW (t45) true (fun k => k (t48) w) (fun t49 w =>
 guardW (t49) false (fun k => run1 Tryz.prog Z (Instr.fieldAt 35 t1 8) w k) (fun t50 w =>
 guardW (t49) false (fun k => run1 Tryz.prog Z (Instr.loadAt 21 t50) w k) (fun t51 w =>
 guardW (t49) false (fun k => run1 Tryz.prog Z (binOp .gtr 21 t51 (.int .i32 1000)) w k) (fun t52 w =>
 guardW (t45) true (fun k => run1 Tryz.prog Z (pickV t49 (.bool true) t52) w k) (fun t53 w =>
 run1 Tryz.prog Z (pickV t45 t53 (.bool false)) w fun t54 w =>
 CondV t54 (
 j_33 t54 w) (
 runX Tryz.prog Z (callVal t7 #[(.int .u64 256)]) w fun t55 w =>
 guardW (t55) true (fun k => run1 Tryz.prog Z (Instr.fieldAt 35 t1 10) w k) (fun t56 w =>
 guardW (t55) true (fun k => run1 Tryz.prog Z (Instr.loadAt 33 t56) w k) (fun t57 w =>
 guardW (t55) true (fun k => run1 Tryz.prog Z (Builtin.len_ #[33] 3 #[t57]) w k) (fun t58 w =>
 guardW (t55) true (fun k => run1 Tryz.prog Z (eqOp .eql 3 false true t58 (.int .i64 0)) w k) (fun t59 w =>
 run1 Tryz.prog Z (pickV t55 t59 (.bool false)) w fun t60 w =>
 j_33 t60 w) w) w) w) w)) w) w) w) w) w) w) w) w)) w) w) w))) →
 j_31 t32 w) →
 run1 Tryz.prog Z (Instr.fieldAt 35 t1 1) w fun t61 w =>
 run1 Tryz.prog Z (Instr.loadAt 9 t61) w fun t62 w =>
 run1 Tryz.prog Z (Builtin.len_ #[9] 3 #[t62]) w fun t63 w =>
 run1 Tryz.prog Z (binOp .gtr 3 t63 (.int .i64 64)) w fun t64 w =>
 CondV t64 (
 j_31 t64 w) (
 run1 Tryz.prog Z (Instr.fieldAt 35 t1 2) w fun t65 w =>
 run1 Tryz.prog Z (Instr.loadAt 30 t65) w fun t66 w =>
 run1 Tryz.prog Z (Builtin.len_ #[30] 3 #[t66]) w fun t67 w =>
 run1 Tryz.prog Z (binOp .gtr 3 t67 (.int .i64 96)) w fun t68 w =>
 CondV t68 (
 j_31 t68 w) (
 run1 Tryz.prog Z (Instr.fieldAt 35 t1 3) w fun t69 w =>
 run1 Tryz.prog Z (Instr.loadAt 31 t69) w fun t70 w =>
 run1 Tryz.prog Z (Builtin.len_ #[31] 3 #[t70]) w fun t71 w =>
 run1 Tryz.prog Z (binOp .gtr 3 t71 (.int .i64 4)) w fun t72 w =>
 CondV t72 (
 j_31 t72 w) (
 run1 Tryz.prog Z (Instr.fieldAt 35 t1 9) w fun t73 w =>
 run1 Tryz.prog Z (Instr.loadAt 32 t73) w fun t74 w =>
 run1 Tryz.prog Z (Builtin.len_ #[32] 3 #[t74]) w fun t75 w =>
 run1 Tryz.prog Z (binOp .gtr 3 t75 (.int .i64 4)) w fun t76 w =>
 CondV t76 (
 j_31 t76 w) (
 run1 Tryz.prog Z (Instr.fieldAt 35 t1 10) w fun t77 w =>
 run1 Tryz.prog Z (Instr.loadAt 33 t77) w fun t78 w =>
 run1 Tryz.prog Z (Builtin.len_ #[33] 3 #[t78]) w fun t79 w =>
 run1 Tryz.prog Z (binOp .gtr 3 t79 (.int .i64 8)) w fun t80 w =>
 j_31 t80 w)))))) →
 j_29 t30 w) →
 runX Tryz.prog Z (callVal t7 #[(.int .u64 16)]) w fun t81 w =>
 run1 Tryz.prog Z (Op.unary .not t81) w fun t82 w =>
 guardW (t82) true (fun k => run1 Tryz.prog Z (Instr.fieldAt 35 t1 5) w k) (fun t83 w =>
 guardW (t82) true (fun k => run1 Tryz.prog Z (Instr.loadAt 4 t83) w k) (fun t84 w =>
 guardW (t82) true (fun k => k (t84) w) (fun t85 w =>
 guardW (t85) false (fun k => run1 Tryz.prog Z (Instr.fieldAt 35 t1 6) w k) (fun t86 w =>
 guardW (t85) false (fun k => run1 Tryz.prog Z (Instr.loadAt 4 t86) w k) (fun t87 w =>
 guardW (t82) true (fun k => run1 Tryz.prog Z (pickV t85 (.bool true) t87) w k) (fun t88 w =>
 run1 Tryz.prog Z (pickV t82 t88 (.bool false)) w fun t89 w =>
 CondV t89 (
 j_29 t89 w) (
 runX Tryz.prog Z (callVal t7 #[(.int .u64 32)]) w fun t90 w =>
 run1 Tryz.prog Z (Op.unary .not t90) w fun t91 w =>
 guardW (t91) true (fun k => run1 Tryz.prog Z (Instr.fieldAt 35 t1 7) w k) (fun t92 w =>
 guardW (t91) true (fun k => run1 Tryz.prog Z (Instr.loadAt 2 t92) w k) (fun t93 w =>
 guardW (t91) true (fun k => run1 Tryz.prog Z (eqOp .neq 2 false true t93 (.int .i64 0)) w k) (fun t94 w =>
 run1 Tryz.prog Z (pickV t91 t94 (.bool false)) w fun t95 w =>
 CondV t95 (
 j_29 t95 w) (
 runX Tryz.prog Z (callVal t7 #[(.int .u64 64)]) w fun t96 w =>
 run1 Tryz.prog Z (Op.unary .not t96) w fun t97 w =>
 guardW (t97) true (fun k => run1 Tryz.prog Z (Instr.fieldAt 35 t1 8) w k) (fun t98 w =>
 guardW (t97) true (fun k => run1 Tryz.prog Z (Instr.loadAt 21 t98) w k) (fun t99 w =>
 guardW (t97) true (fun k => run1 Tryz.prog Z (eqOp .neq 21 false true t99 (.int .i32 0)) w k) (fun t100 w =>
 run1 Tryz.prog Z (pickV t97 t100 (.bool false)) w fun t101 w =>
 CondV t101 (
 j_29 t101 w) (
 runX Tryz.prog Z (callVal t7 #[(.int .u64 128)]) w fun t102 w =>
 run1 Tryz.prog Z (Op.unary .not t102) w fun t103 w =>
 guardW (t103) true (fun k => run1 Tryz.prog Z (Instr.fieldAt 35 t1 9) w k) (fun t104 w =>
 guardW (t103) true (fun k => run1 Tryz.prog Z (Instr.loadAt 32 t104) w k) (fun t105 w =>
 guardW (t103) true (fun k => run1 Tryz.prog Z (Builtin.len_ #[32] 3 #[t105]) w k) (fun t106 w =>
 guardW (t103) true (fun k => run1 Tryz.prog Z (binOp .gtr 3 t106 (.int .i64 0)) w k) (fun t107 w =>
 run1 Tryz.prog Z (pickV t103 t107 (.bool false)) w fun t108 w =>
 CondV t108 (
 j_29 t108 w) (
 runX Tryz.prog Z (callVal t7 #[(.int .u64 256)]) w fun t109 w =>
 run1 Tryz.prog Z (Op.unary .not t109) w fun t110 w =>
 guardW (t110) true (fun k => run1 Tryz.prog Z (Instr.fieldAt 35 t1 10) w k) (fun t111 w =>
 guardW (t110) true (fun k => run1 Tryz.prog Z (Instr.loadAt 33 t111) w k) (fun t112 w =>
 guardW (t110) true (fun k => run1 Tryz.prog Z (Builtin.len_ #[33] 3 #[t112]) w k) (fun t113 w =>
 guardW (t110) true (fun k => run1 Tryz.prog Z (binOp .gtr 3 t113 (.int .i64 0)) w k) (fun t114 w =>
 run1 Tryz.prog Z (pickV t110 t114 (.bool false)) w fun t115 w =>
 j_29 t115 w) w) w) w) w)) w) w) w) w)) w) w) w)) w) w) w)) w) w) w) w) w) w)) →
 j_27 t28 w) →
 runX Tryz.prog Z (callVal t7 #[(.int .u64 1)]) w fun t116 w =>
 run1 Tryz.prog Z (Op.unary .not t116) w fun t117 w =>
 guardW (t117) true (fun k => run1 Tryz.prog Z (Instr.fieldAt 35 t1 1) w k) (fun t118 w =>
 guardW (t117) true (fun k => run1 Tryz.prog Z (Instr.loadAt 9 t118) w k) (fun t119 w =>
 guardW (t117) true (fun k => run1 Tryz.prog Z (eqOp .neq 9 false true t119 (.string { data := #[] })) w k) (fun t120 w =>
 run1 Tryz.prog Z (pickV t117 t120 (.bool false)) w fun t121 w =>
 CondV t121 (
 j_27 t121 w) (
 runX Tryz.prog Z (callVal t7 #[(.int .u64 2)]) w fun t122 w =>
 run1 Tryz.prog Z (Op.unary .not t122) w fun t123 w =>
 guardW (t123) true (fun k => run1 Tryz.prog Z (Instr.fieldAt 35 t1 2) w k) (fun t124 w =>
 guardW (t123) true (fun k => run1 Tryz.prog Z (Instr.loadAt 30 t124) w k) (fun t125 w =>
 guardW (t123) true (fun k => run1 Tryz.prog Z (Builtin.len_ #[30] 3 #[t125]) w k) (fun t126 w =>
 guardW (t123) true (fun k => run1 Tryz.prog Z (binOp .gtr 3 t126 (.int .i64 0)) w k) (fun t127 w =>
 run1 Tryz.prog Z (pickV t123 t127 (.bool false)) w fun t128 w =>
 CondV t128 (
 j_27 t128 w) (
 runX Tryz.prog Z (callVal t7 #[(.int .u64 4)]) w fun t129 w =>
 run1 Tryz.prog Z (Op.unary .not t129) w fun t130 w =>
 guardW (t130) true (fun k => run1 Tryz.prog Z (Instr.fieldAt 35 t1 3) w k) (fun t131 w =>
 guardW (t130) true (fun k => run1 Tryz.prog Z (Instr.loadAt 31 t131) w k) (fun t132 w =>
 guardW (t130) true (fun k => run1 Tryz.prog Z (Builtin.len_ #[31] 3 #[t132]) w k) (fun t133 w =>
 guardW (t130) true (fun k => run1 Tryz.prog Z (binOp .gtr 3 t133 (.int .i64 0)) w k) (fun t134 w =>
 run1 Tryz.prog Z (pickV t130 t134 (.bool false)) w fun t135 w =>
 CondV t135 (
 j_27 t135 w) (
 runX Tryz.prog Z (callVal t7 #[(.int .u64 8)]) w fun t136 w =>
 run1 Tryz.prog Z (Op.unary .not t136) w fun t137 w =>
 guardW (t137) true (fun k => run1 Tryz.prog Z (Instr.fieldAt 35 t1 4) w k) (fun t138 w =>
 guardW (t137) true (fun k => run1 Tryz.prog Z (Instr.loadAt 21 t138) w k) (fun t139 w =>
 guardW (t137) true (fun k => run1 Tryz.prog Z (eqOp .neq 21 false true t139 (.int .i32 0)) w k) (fun t140 w =>
 run1 Tryz.prog Z (pickV t137 t140 (.bool false)) w fun t141 w =>
 j_27 t141 w) w) w) w)) w) w) w) w)) w) w) w) w)) w) w) w
def f162.an : An := (.sq .leaf (.sq .leaf (.sq .leaf (.sj [] (.bl (.sj [12] (.sq .leaf (.cn .leaf (.sq .leaf (.cn .leaf (.sq .leaf (.cn .leaf .leaf)))))) (.cn (.sq .leaf .leaf) (.sj [47] (.sq .leaf (.cn .leaf (.sq .leaf (.cn .leaf (.sq .leaf (.cn .leaf (.sq .leaf (.cn .leaf .leaf)))))))) (.cn (.sq .leaf .leaf) (.sj [93] (.sq .leaf (.cn .leaf (.sq .leaf (.cn .leaf (.sq .leaf (.cn .leaf (.sq .leaf (.cn .leaf .leaf)))))))) (.cn (.sq .leaf .leaf) (.sj [114] (.sq .leaf (.cn .leaf (.sq .leaf (.cn .leaf (.sq .leaf (.cn .leaf .leaf)))))) (.cn (.sq .leaf .leaf) .leaf))))))))) (.sq (.sq .leaf (.bl (.lp [149] (.sq .leaf (.sq (.cn .leaf .leaf) (.sq (.bl (.sq .leaf (.sq .leaf (.cn (.sq .leaf .leaf) .leaf)))) .leaf)))))) (.sq .leaf .leaf))))))
theorem f162.calls {Z : List PanicEntry → World → Prop} {x0 : Value} {w : World} {Q : Value → World → Prop} (h : f162.sh Z x0 w Q) : CallV Tryz.prog Z 162 #[x0] w Q :=
 cl Tryz.func162 f162.an [x0] (by kernel_rfl) (by kernel_rfl) h

def f163.sh (Z : List PanicEntry → World → Prop) (x0 : Value) (w : World) (Q : Value → World → Prop) : Prop :=
 run1 Tryz.prog Z (Instr.box 35 x0) w fun t1 w =>
 run1 Tryz.prog Z (Instr.fieldAt 35 t1 0) w fun t2 w =>
 run1 Tryz.prog Z (Instr.loadAt 22 t2) w fun t3 w =>
 run1 Tryz.prog Z (binOp .geq 22 t3 (.int .i8 1)) w fun t4 w =>
 guardW (t4) true (fun k => run1 Tryz.prog Z (Instr.fieldAt 35 t1 0) w k) (fun t5 w =>
 guardW (t4) true (fun k => run1 Tryz.prog Z (Instr.loadAt 22 t5) w k) (fun t6 w =>
 guardW (t4) true (fun k => run1 Tryz.prog Z (binOp .leq 22 t6 (.int .i8 5)) w k) (fun t7 w =>
 run1 Tryz.prog Z (pickV t4 t7 (.bool false)) w fun t8 w =>
 guardW (t8) true (fun k => run1 Tryz.prog Z (Instr.fieldAt 35 t1 7) w k) (fun t9 w =>
 guardW (t8) true (fun k => run1 Tryz.prog Z (Instr.loadAt 2 t9) w k) (fun t10 w =>
 guardW (t8) true (fun k => run1 Tryz.prog Z (eqOp .eql 2 false true t10 (.int .i64 0)) w k) (fun t11 w =>
 run1 Tryz.prog Z (pickV t8 t11 (.bool false)) w fun t12 w =>
 guardW (t12) true (fun k => run1 Tryz.prog Z (Instr.fieldAt 35 t1 9) w k) (fun t13 w =>
 guardW (t12) true (fun k => run1 Tryz.prog Z (Instr.loadAt 32 t13) w k) (fun t14 w =>
 guardW (t12) true (fun k => run1 Tryz.prog Z (Builtin.len_ #[32] 3 #[t14]) w k) (fun t15 w =>
 guardW (t12) true (fun k => run1 Tryz.prog Z (eqOp .eql 3 false true t15 (.int .i64 0)) w k) (fun t16 w =>
 run1 Tryz.prog Z (pickV t12 t16 (.bool false)) w fun t17 w =>
 guardW (t17) true (fun k => run1 Tryz.prog Z (Instr.loadAt 35 t1) w k) (fun t18 w =>
 guardW (t17) true (fun k => CallV Tryz.prog Z 162 #[t18] w k) (fun t19 w =>
 run1 Tryz.prog Z (pickV t17 t19 (.bool false)) w fun t20 w =>
 Q t20 w) w) w) w) w) w) w) w) w) w) w) w) w
def f163.an : An := (.sq .leaf (.sq .leaf .leaf))
theorem f163.calls {Z : List PanicEntry → World → Prop} {x0 : Value} {w : World} {Q : Value → World → Prop} (h : f163.sh Z x0 w Q) : CallV Tryz.prog Z 163 #[x0] w Q :=
 cl Tryz.func163 f163.an [x0] (by kernel_rfl) (by kernel_rfl) h

def f164.sh (Z : List PanicEntry → World → Prop) (x0 : Value) (w : World) (Q : Value → World → Prop) : Prop :=
 run1 Tryz.prog Z (eqOp .neq 23 false false x0 x0) w fun t1 w =>
 Q t1 w
def f164.an : An := (.sq .leaf (.sq .leaf .leaf))
theorem f164.calls {Z : List PanicEntry → World → Prop} {x0 : Value} {w : World} {Q : Value → World → Prop} (h : f164.sh Z x0 w Q) : CallV Tryz.prog Z 164 #[x0] w Q :=
 cl Tryz.func164 f164.an [x0] (by kernel_rfl) (by kernel_rfl) h

def f165.sh (Z : List PanicEntry → World → Prop) (x0 x1 : Value) (w : World) (Q : Value → World → Prop) : Prop :=
 run1 Tryz.prog Z (Instr.loadAt 121 x1) w fun t1 w =>
 run1 Tryz.prog Z (binOp .and 121 t1 x0) w fun t2 w =>
 run1 Tryz.prog Z (eqOp .neq 121 false true t2 (.int .u64 0)) w fun t3 w =>
 Q t3 w
def f165.an : An := (.sq .leaf (.sq .leaf .leaf))
theorem f165.calls {Z : List PanicEntry → World → Prop} {x0 x1 : Value} {w : World} {Q : Value → World → Prop} (h : f165.sh Z x0 x1 w Q) : CallV Tryz.prog Z 165 #[x0, x1] w Q :=
 cl Tryz.func165 f165.an [x0, x1] (by kernel_rfl) (by kernel_rfl) h

def f166.sh (Z : List PanicEntry → World → Prop) (x0 : Value) (w : World) (Q : Value → World → Prop) : Prop :=
 run1 Tryz.prog Z (Instr.box 143 x0) w fun t1 w =>
 run1 Tryz.prog Z (Instr.fieldAt 143 t1 0) w fun t2 w =>
 run1 Tryz.prog Z (Instr.loadAt 9 t2) w fun t3 w =>
 run1 Tryz.prog Z (Builtin.len_ #[9] 3 #[t3]) w fun t4 w =>
 run1 Tryz.prog Z (binOp .leq 3 t4 (.int .i64 24)) w fun t5 w =>
 guardW (t5) true (fun k => run1 Tryz.prog Z (Instr.fieldAt 143 t1 1) w k) (fun t6 w =>
 guardW (t5) true (fun k => run1 Tryz.prog Z (Instr.loadAt 9 t6) w k) (fun t7 w =>
 guardW (t5) true (fun k => run1 Tryz.prog Z (Builtin.len_ #[9] 3 #[t7]) w k) (fun t8 w =>
 guardW (t5) true (fun k => run1 Tryz.prog Z (binOp .leq 3 t8 (.int .i64 24)) w k) (fun t9 w =>
 run1 Tryz.prog Z (pickV t5 t9 (.bool false)) w fun t10 w =>
 Q t10 w) w) w) w) w
def f166.an : An := (.sq .leaf (.sq .leaf .leaf))
theorem f166.calls {Z : List PanicEntry → World → Prop} {x0 : Value} {w : World} {Q : Value → World → Prop} (h : f166.sh Z x0 w Q) : CallV Tryz.prog Z 166 #[x0] w Q :=
 cl Tryz.func166 f166.an [x0] (by kernel_rfl) (by kernel_rfl) h

def f167.sh (Z : List PanicEntry → World → Prop) (x0 x1 : Value) (w : World) (Q : Value → World → Prop) : Prop :=
 CallV Tryz.prog Z 169 #[x0, x1] w fun t1 w =>
 run1 Tryz.prog Z (binOp .geq 3 t1 (.int .i64 0)) w fun t2 w =>
 Q t2 w
def f167.an : An := (.sq .leaf (.sq .leaf .leaf))
theorem f167.calls {Z : List PanicEntry → World → Prop} {x0 x1 : Value} {w : World} {Q : Value → World → Prop} (h : f167.sh Z x0 x1 w Q) : CallV Tryz.prog Z 167 #[x0, x1] w Q :=
 cl Tryz.func167 f167.an [x0, x1] (by kernel_rfl) (by kernel_rfl) h

def f168.sh (Z : List PanicEntry → World → Prop) (x0 : Value) (w : World) (Q : Value → World → Prop) : Prop :=
 run1 Tryz.prog Z (Instr.box 143 x0) w fun t1 w =>
 run1 Tryz.prog Z (Instr.loadAt 143 t1) w fun t2 w =>
 CallV Tryz.prog Z 166 #[t2] w fun t3 w =>
 run1 Tryz.prog Z (Op.unary .not t3) w fun t4 w =>
 Q t4 w
def f168.an : An := (.sq .leaf (.sq .leaf .leaf))
theorem f168.calls {Z : List PanicEntry → World → Prop} {x0 : Value} {w : World} {Q : Value → World → Prop} (h : f168.sh Z x0 w Q) : CallV Tryz.prog Z 168 #[x0] w Q :=
 cl Tryz.func168 f168.an [x0] (by kernel_rfl) (by kernel_rfl) h

def f169.sh (Z : List PanicEntry → World → Prop) (x0 x1 : Value) (w : World) (Q : Value → World → Prop) : Prop :=
 run1 Tryz.prog Z (Builtin.len_ #[32] 3 #[x0]) w fun t1 w =>
 ∃ J_2 : Nat → Value → World → Prop, (∃ m, J_2 m (.int .i64 0) w) ∧
 ∀ m_2, ∀ t3 : Value, ∀ w : World, J_2 m_2 t3 w → Env →
 run1 Tryz.prog Z (binOp .lss 3 t3 t1) w fun t4 w =>
 CondV t4 (
 run1 Tryz.prog Z (Instr.indexAt 32 x0 t3) w fun t5 w =>
 run1 Tryz.prog Z (Instr.loadAt 143 t5) w fun t6 w =>
 runX Tryz.prog Z (callVal x1 #[t6]) w fun t7 w =>
 CondV t7 (
 Q t3 w) (
 run1 Tryz.prog Z (binOp .add 3 t3 (.int .i64 1)) w fun t8 w =>
 ∃ n_2, n_2 < m_2 ∧ J_2 n_2 t8 w)) (
 Q (.int .i64 (-1)) w)
def f169.an : An := (.sq .leaf (.sq (.sq .leaf (.bl (.lp [8] (.sq .leaf (.sq (.cn .leaf .leaf) (.sq (.bl (.sq .leaf (.sq .leaf (.cn (.sq .leaf .leaf) .leaf)))) .leaf)))))) (.sq .leaf .leaf)))
theorem f169.calls {Z : List PanicEntry → World → Prop} {x0 x1 : Value} {w : World} {Q : Value → World → Prop} (h : f169.sh Z x0 x1 w Q) : CallV Tryz.prog Z 169 #[x0, x1] w Q :=
 cl Tryz.func169 f169.an [x0, x1] (by kernel_rfl) (by kernel_rfl) h

end Go.Proofs.YtfafkgbipjhcaaaGreatDoor
