import Derived.Test.YtfijkedmbaghmaaGreatDoorShBase
set_option linter.unusedVariables false
namespace Go.Proofs.YtfijkedmbaghmaaGreatDoor
open Go.Sh
def f239.sh (Z : List PanicEntry → World → Prop) (x0 x1 : Value) (w : World) (Q : Value → World → Prop) : Prop :=
 run1 Tryz.prog Z (Instr.box 267 x0) w fun t1 w =>
 run1 Tryz.prog Z (Instr.fieldAt 267 t1 0) w fun t2 w =>
 run1 Tryz.prog Z (Instr.loadAt 4 t2) w fun t3 w =>
 CondV t3 (
 run1 Tryz.prog Z (Instr.indexAt 296 (.pointer (some ⟨1, 0, none⟩)) x1) w fun t4 w =>
 run1 Tryz.prog Z (Instr.loadAt 155 t4) w fun t5 w =>
 run1 Tryz.prog Z (binOp .andNot 155 t5 (.int .u64 160)) w fun t6 w =>
 Q t6 w) (
 run1 Tryz.prog Z (Instr.indexAt 296 (.pointer (some ⟨1, 0, none⟩)) x1) w fun t7 w =>
 run1 Tryz.prog Z (Instr.loadAt 155 t7) w fun t8 w =>
 Q t8 w)
def f239.an : An := (.sq .leaf (.sq (.sq .leaf (.cn (.sq .leaf .leaf) .leaf)) (.sq .leaf .leaf)))
theorem f239.calls {Z : List PanicEntry → World → Prop} {x0 x1 : Value} {w : World} {Q : Value → World → Prop} (h : f239.sh Z x0 x1 w Q) : CallV Tryz.prog Z 239 #[x0, x1] w Q :=
 cl Tryz.func239 f239.an [x0, x1] (by kernel_rfl) (by kernel_rfl) h

def f240.sh (Z : List PanicEntry → World → Prop) (x0 x1 : Value) (w : World) (Q : Value → World → Prop) : Prop :=
 run1 Tryz.prog Z (eqOp .eql 86 false true x0 (.pointer none)) w fun t1 w =>
 CondV t1 (
 Q (Value.tuple #[]) w) (
 run1 Tryz.prog Z (Builtin.len_ #[9] 3 #[x1]) w fun t2 w =>
 run1 Tryz.prog Z (convert 3 21 t2) w fun t3 w =>
 CallV Tryz.prog Z 198 #[x0, t3] w fun t4 w =>
 runX Tryz.prog Z (nilChk x0) w fun t5 w =>
 run1 Tryz.prog Z (Instr.fieldAt 88 t5 0) w fun t6 w =>
 run1 Tryz.prog Z (Instr.loadAt 30 t6) w fun t7 w =>
 run1 Tryz.prog Z (Builtin.append_ #[30, 9] 30 #[t7, x1]) w fun t8 w =>
 runX Tryz.prog Z (nilChk x0) w fun t9 w =>
 run1 Tryz.prog Z (Instr.fieldAt 88 t9 0) w fun t10 w =>
 run0 Tryz.prog Z (Instr.storeAt 30 t10 t8) w fun w =>
 Q (Value.tuple #[]) w)
def f240.an : An := (.sq (.sq .leaf (.cn .leaf .leaf)) (.sq .leaf .leaf))
theorem f240.calls {Z : List PanicEntry → World → Prop} {x0 x1 : Value} {w : World} {Q : Value → World → Prop} (h : f240.sh Z x0 x1 w Q) : CallV Tryz.prog Z 240 #[x0, x1] w Q :=
 cl Tryz.func240 f240.an [x0, x1] (by kernel_rfl) (by kernel_rfl) h

def f241.sh (Z : List PanicEntry → World → Prop) (x0 x1 x2 : Value) (w : World) (Q : Value → World → Prop) : Prop :=
 run1 Tryz.prog Z (eqOp .eql 86 false true x0 (.pointer none)) w fun t1 w =>
 CondV t1 (
 Q (Value.tuple #[]) w) (
 run1 Tryz.prog Z (Builtin.len_ #[31] 3 #[x1]) w fun t2 w =>
 run1 Tryz.prog Z (convert 3 21 t2) w fun t3 w =>
 CallV Tryz.prog Z 198 #[x0, t3] w fun t4 w =>
 run1 Tryz.prog Z (eqOp .eql 282 false true x2 .nilFunc) w fun t5 w =>
 CondV t5 (
 Q (Value.tuple #[]) w) (
 run1 Tryz.prog Z (Builtin.len_ #[31] 3 #[x1]) w fun t6 w =>
 ∃ J_7 : Nat → Value → World → Prop, (∃ m, J_7 m (.int .i64 0) w) ∧
 ∀ m_7, ∀ t8 : Value, ∀ w : World, J_7 m_7 t8 w → Env →
 run1 Tryz.prog Z (binOp .lss 3 t8 t6) w fun t9 w =>
 CondV t9 (
 run1 Tryz.prog Z (Instr.indexAt 31 x1 t8) w fun t10 w =>
 run1 Tryz.prog Z (Instr.loadAt 178 t10) w fun t11 w =>
 run1 Tryz.prog Z (Instr.alloc 178 true (.tuple #[])) w fun t12 w =>
 run0 Tryz.prog Z (Instr.storeAt 178 t12 t11) w fun w =>
 run1 Tryz.prog Z (Instr.loadAt 178 t12) w fun t13 w =>
 runX Tryz.prog Z (callVal x2 #[x0, t13]) w fun t14 w =>
 run1 Tryz.prog Z (binOp .add 3 t8 (.int .i64 1)) w fun t15 w =>
 ∃ n_7, n_7 < m_7 ∧ J_7 n_7 t15 w) (
 Q (Value.tuple #[]) w)))
def f241.an : An := (.sq (.sq .leaf (.cn .leaf .leaf)) (.sq .leaf (.sq (.sq .leaf (.cn .leaf .leaf)) (.sq .leaf (.bl (.lp [19] (.sq .leaf (.sq (.cn .leaf .leaf) (.sq (.bl (.sq .leaf .leaf)) .leaf)))))))))
theorem f241.calls {Z : List PanicEntry → World → Prop} {x0 x1 x2 : Value} {w : World} {Q : Value → World → Prop} (h : f241.sh Z x0 x1 x2 w Q) : CallV Tryz.prog Z 241 #[x0, x1, x2] w Q :=
 cl Tryz.func241 f241.an [x0, x1, x2] (by kernel_rfl) (by kernel_rfl) h

def f242.sh (Z : List PanicEntry → World → Prop) (x0 x1 : Value) (w : World) (Q : Value → World → Prop) : Prop :=
 run1 Tryz.prog Z (Instr.box 178 x1) w fun t1 w =>
 run1 Tryz.prog Z (Instr.fieldAt 178 t1 0) w fun t2 w =>
 run1 Tryz.prog Z (Instr.loadAt 22 t2) w fun t3 w =>
 CallV Tryz.prog Z 30 #[x0, t3] w fun t4 w =>
 run1 Tryz.prog Z (Instr.fieldAt 178 t1 1) w fun t5 w =>
 run1 Tryz.prog Z (Instr.loadAt 175 t5) w fun t6 w =>
 CallV Tryz.prog Z 244 #[x0, t6] w fun t7 w =>
 Q (Value.tuple #[]) w
def f242.an : An := (.sq .leaf (.sq .leaf .leaf))
theorem f242.calls {Z : List PanicEntry → World → Prop} {x0 x1 : Value} {w : World} {Q : Value → World → Prop} (h : f242.sh Z x0 x1 w Q) : CallV Tryz.prog Z 242 #[x0, x1] w Q :=
 cl Tryz.func242 f242.an [x0, x1] (by kernel_rfl) (by kernel_rfl) h

def f243.sh (Z : List PanicEntry → World → Prop) (x0 x1 x2 : Value) (w : World) (Q : Value → World → Prop) : Prop :=
 run1 Tryz.prog Z (eqOp .eql 86 false true x0 (.pointer none)) w fun t1 w =>
 CondV t1 (
 Q (Value.tuple #[]) w) (
 run1 Tryz.prog Z (Builtin.len_ #[32] 3 #[x1]) w fun t2 w =>
 run1 Tryz.prog Z (convert 3 21 t2) w fun t3 w =>
 CallV Tryz.prog Z 198 #[x0, t3] w fun t4 w =>
 run1 Tryz.prog Z (eqOp .eql 284 false true x2 .nilFunc) w fun t5 w =>
 CondV t5 (
 Q (Value.tuple #[]) w) (
 run1 Tryz.prog Z (Builtin.len_ #[32] 3 #[x1]) w fun t6 w =>
 ∃ J_7 : Nat → Value → World → Prop, (∃ m, J_7 m (.int .i64 0) w) ∧
 ∀ m_7, ∀ t8 : Value, ∀ w : World, J_7 m_7 t8 w → Env →
 run1 Tryz.prog Z (binOp .lss 3 t8 t6) w fun t9 w =>
 CondV t9 (
 run1 Tryz.prog Z (Instr.indexAt 32 x1 t8) w fun t10 w =>
 run1 Tryz.prog Z (Instr.loadAt 175 t10) w fun t11 w =>
 run1 Tryz.prog Z (Instr.alloc 175 true (.tuple #[])) w fun t12 w =>
 run0 Tryz.prog Z (Instr.storeAt 175 t12 t11) w fun w =>
 run1 Tryz.prog Z (Instr.loadAt 175 t12) w fun t13 w =>
 runX Tryz.prog Z (callVal x2 #[x0, t13]) w fun t14 w =>
 run1 Tryz.prog Z (binOp .add 3 t8 (.int .i64 1)) w fun t15 w =>
 ∃ n_7, n_7 < m_7 ∧ J_7 n_7 t15 w) (
 Q (Value.tuple #[]) w)))
def f243.an : An := (.sq (.sq .leaf (.cn .leaf .leaf)) (.sq .leaf (.sq (.sq .leaf (.cn .leaf .leaf)) (.sq .leaf (.bl (.lp [19] (.sq .leaf (.sq (.cn .leaf .leaf) (.sq (.bl (.sq .leaf .leaf)) .leaf)))))))))
theorem f243.calls {Z : List PanicEntry → World → Prop} {x0 x1 x2 : Value} {w : World} {Q : Value → World → Prop} (h : f243.sh Z x0 x1 x2 w Q) : CallV Tryz.prog Z 243 #[x0, x1, x2] w Q :=
 cl Tryz.func243 f243.an [x0, x1, x2] (by kernel_rfl) (by kernel_rfl) h

def f244.sh (Z : List PanicEntry → World → Prop) (x0 x1 : Value) (w : World) (Q : Value → World → Prop) : Prop :=
 run1 Tryz.prog Z (Instr.box 175 x1) w fun t1 w =>
 run1 Tryz.prog Z (Instr.fieldAt 175 t1 0) w fun t2 w =>
 run1 Tryz.prog Z (Instr.loadAt 9 t2) w fun t3 w =>
 CallV Tryz.prog Z 240 #[x0, t3] w fun t4 w =>
 run1 Tryz.prog Z (Instr.fieldAt 175 t1 1) w fun t5 w =>
 run1 Tryz.prog Z (Instr.loadAt 9 t5) w fun t6 w =>
 CallV Tryz.prog Z 240 #[x0, t6] w fun t7 w =>
 Q (Value.tuple #[]) w
def f244.an : An := (.sq .leaf (.sq .leaf .leaf))
theorem f244.calls {Z : List PanicEntry → World → Prop} {x0 x1 : Value} {w : World} {Q : Value → World → Prop} (h : f244.sh Z x0 x1 w Q) : CallV Tryz.prog Z 244 #[x0, x1] w Q :=
 cl Tryz.func244 f244.an [x0, x1] (by kernel_rfl) (by kernel_rfl) h

def f245.sh (Z : List PanicEntry → World → Prop) (x0 x1 x2 : Value) (w : World) (Q : Value → World → Prop) : Prop :=
 run1 Tryz.prog Z (eqOp .eql 86 false true x0 (.pointer none)) w fun t1 w =>
 CondV t1 (
 Q (Value.tuple #[]) w) (
 run1 Tryz.prog Z (Builtin.len_ #[33] 3 #[x1]) w fun t2 w =>
 run1 Tryz.prog Z (convert 3 21 t2) w fun t3 w =>
 CallV Tryz.prog Z 198 #[x0, t3] w fun t4 w =>
 run1 Tryz.prog Z (eqOp .eql 268 false true x2 .nilFunc) w fun t5 w =>
 CondV t5 (
 Q (Value.tuple #[]) w) (
 run1 Tryz.prog Z (Builtin.len_ #[33] 3 #[x1]) w fun t6 w =>
 ∃ J_7 : Nat → Value → World → Prop, (∃ m, J_7 m (.int .i64 0) w) ∧
 ∀ m_7, ∀ t8 : Value, ∀ w : World, J_7 m_7 t8 w → Env →
 run1 Tryz.prog Z (binOp .lss 3 t8 t6) w fun t9 w =>
 CondV t9 (
 run1 Tryz.prog Z (Instr.indexAt 33 x1 t8) w fun t10 w =>
 run1 Tryz.prog Z (Instr.loadAt 35 t10) w fun t11 w =>
 run1 Tryz.prog Z (Instr.alloc 35 true (.tuple #[])) w fun t12 w =>
 run0 Tryz.prog Z (Instr.storeAt 35 t12 t11) w fun w =>
 run1 Tryz.prog Z (Instr.loadAt 35 t12) w fun t13 w =>
 runX Tryz.prog Z (callVal x2 #[x0, t13]) w fun t14 w =>
 run1 Tryz.prog Z (binOp .add 3 t8 (.int .i64 1)) w fun t15 w =>
 ∃ n_7, n_7 < m_7 ∧ J_7 n_7 t15 w) (
 Q (Value.tuple #[]) w)))
def f245.an : An := (.sq (.sq .leaf (.cn .leaf .leaf)) (.sq .leaf (.sq (.sq .leaf (.cn .leaf .leaf)) (.sq .leaf (.bl (.lp [19] (.sq .leaf (.sq (.cn .leaf .leaf) (.sq (.bl (.sq .leaf .leaf)) .leaf)))))))))
theorem f245.calls {Z : List PanicEntry → World → Prop} {x0 x1 x2 : Value} {w : World} {Q : Value → World → Prop} (h : f245.sh Z x0 x1 x2 w Q) : CallV Tryz.prog Z 245 #[x0, x1, x2] w Q :=
 cl Tryz.func245 f245.an [x0, x1, x2] (by kernel_rfl) (by kernel_rfl) h

def f246.sh (Z : List PanicEntry → World → Prop) (x0 : Value) (w : World) (Q : Value → World → Prop) : Prop :=
 run1 Tryz.prog Z (binOp .geq 22 x0 (.int .i8 1)) w fun t1 w =>
 guardW (t1) true (fun k => k (x0) w) (fun t2 w =>
 guardW (t1) true (fun k => run1 Tryz.prog Z (binOp .leq 22 t2 (.int .i8 12)) w k) (fun t3 w =>
 run1 Tryz.prog Z (pickV t1 t3 (.bool false)) w fun t4 w =>
 Q t4 w) w) w
def f246.an : An := (.sq .leaf (.sq .leaf .leaf))
theorem f246.calls {Z : List PanicEntry → World → Prop} {x0 : Value} {w : World} {Q : Value → World → Prop} (h : f246.sh Z x0 w Q) : CallV Tryz.prog Z 246 #[x0] w Q :=
 cl Tryz.func246 f246.an [x0] (by kernel_rfl) (by kernel_rfl) h

def f247.sh (Z : List PanicEntry → World → Prop) (x0 x1 : Value) (w : World) (Q : Value → World → Prop) : Prop :=
 CallV Tryz.prog Z 171 #[x0] w fun t1 w =>
 CondV t1 (
 runX Tryz.prog Z (nilChk x0) w fun t2 w =>
 run1 Tryz.prog Z (Instr.fieldAt 239 t2 2) w fun t3 w =>
 run0 Tryz.prog Z (Instr.storeAt 43 t3 x1) w fun w =>
 Q (Value.tuple #[]) w) (
 Q (Value.tuple #[]) w)
def f247.an : An := (.sq .leaf (.cn .leaf .leaf))
theorem f247.calls {Z : List PanicEntry → World → Prop} {x0 x1 : Value} {w : World} {Q : Value → World → Prop} (h : f247.sh Z x0 x1 w Q) : CallV Tryz.prog Z 247 #[x0, x1] w Q :=
 cl Tryz.func247 f247.an [x0, x1] (by kernel_rfl) (by kernel_rfl) h

def f248.sh (Z : List PanicEntry → World → Prop) (x0 x1 : Value) (w : World) (Q : Value → World → Prop) : Prop :=
 CallV Tryz.prog Z 199 #[x0, x1] w fun t1 w =>
 run1 Tryz.prog Z (convert 30 9 t1) w fun t2 w =>
 Q t2 w
def f248.an : An := (.sq .leaf (.sq .leaf .leaf))
theorem f248.calls {Z : List PanicEntry → World → Prop} {x0 x1 : Value} {w : World} {Q : Value → World → Prop} (h : f248.sh Z x0 x1 w Q) : CallV Tryz.prog Z 248 #[x0, x1] w Q :=
 cl Tryz.func248 f248.an [x0, x1] (by kernel_rfl) (by kernel_rfl) h

def f249.sh (Z : List PanicEntry → World → Prop) (x0 x1 x2 : Value) (w : World) (Q : Value → World → Prop) : Prop :=
 CallV Tryz.prog Z 222 #[x0] w fun t1 w =>
 CallV Tryz.prog Z 223 #[x0] w fun t2 w =>
 run1 Tryz.prog Z (convert 21 3 t2) w fun t3 w =>
 CallV Tryz.prog Z 171 #[x0] w fun t4 w =>
 run1 Tryz.prog Z (Op.unary .not t4) w fun t5 w =>
 CondV t5 (
 Q (.slice none 0 0) w) (
 run1 Tryz.prog Z (binOp .lss 3 t3 (.int .i64 0)) w fun t6 w =>
 guardW (t6) false (fun k => k (t3) w) (fun t7 w =>
 guardW (t6) false (fun k => k (x1) w) (fun t8 w =>
 guardW (t6) false (fun k => run1 Tryz.prog Z (binOp .gtr 3 t7 t8) w k) (fun t9 w =>
 run1 Tryz.prog Z (pickV t6 (.bool true) t9) w fun t10 w =>
 CondV t10 (
 CallV Tryz.prog Z 224 #[x0, t1, (.int .i64 11)] w fun t11 w =>
 Q (.slice none 0 0) w) (
 runX Tryz.prog Z (nilChk x0) w fun t12 w =>
 run1 Tryz.prog Z (Instr.fieldAt 239 t12 1) w fun t13 w =>
 run1 Tryz.prog Z (Instr.loadAt 30 t13) w fun t14 w =>
 run1 Tryz.prog Z (Builtin.len_ #[30] 3 #[t14]) w fun t15 w =>
 run1 Tryz.prog Z (binOp .gtr 3 t3 t15) w fun t16 w =>
 CondV t16 (
 CallV Tryz.prog Z 224 #[x0, t1, (.int .i64 10)] w fun t17 w =>
 Q (.slice none 0 0) w) (
 run1 Tryz.prog Z (eqOp .eql 288 false true x2 .nilFunc) w fun t18 w =>
 CondV t18 (
 run1 Tryz.prog Z (Instr.makeSlice 31 t3 t3) w fun t19 w =>
 Q t19 w) (
 ∃ J_20 : Nat → Value → Value → World → Prop, (∃ m, J_20 m (.slice none 0 0) (.int .i64 0) w) ∧
 ∀ m_20, ∀ t21 : Value, ∀ t22 : Value, ∀ w : World, J_20 m_20 t21 t22 w → Env →
 run1 Tryz.prog Z (binOp .lss 3 t22 t3) w fun t23 w =>
 CondV t23 (
 runX Tryz.prog Z (callVal x2 #[x0]) w fun t24 w =>
 run1 Tryz.prog Z (Instr.alloc 178 true (.tuple #[])) w fun t25 w =>
 run0 Tryz.prog Z (Instr.storeAt 178 t25 t24) w fun w =>
 CallV Tryz.prog Z 171 #[x0] w fun t26 w =>
 run1 Tryz.prog Z (Op.unary .not t26) w fun t27 w =>
 CondV t27 (
 Q (.slice none 0 0) w) (
 run1 Tryz.prog Z (Instr.loadAt 178 t25) w fun t28 w =>
 run1 Tryz.prog Z (Instr.buildSlice 31 1 #[(0, t28)]) w fun t29 w =>
 run1 Tryz.prog Z (Builtin.append_ #[31, 31] 31 #[t21, t29]) w fun t30 w =>
 run1 Tryz.prog Z (binOp .add 3 t22 (.int .i64 1)) w fun t31 w =>
 ∃ n_20, n_20 < m_20 ∧ J_20 n_20 t30 t31 w)) (
 Q t21 w))))) w) w) w)
def f249.an : An := (.sq .leaf (.sq .leaf (.sq .leaf (.sq (.sq .leaf (.cn (.sq .leaf .leaf) .leaf)) (.sq (.bl (.sq .leaf (.cn (.sq .leaf (.sq .leaf .leaf)) (.sq .leaf (.cn (.sq .leaf (.sq .leaf .leaf)) .leaf))))) (.sq (.sq .leaf (.cn (.sq .leaf .leaf) .leaf)) (.sq .leaf (.sq (.sq .leaf (.bl (.lp [9, 46] (.sq .leaf (.sq (.cn .leaf .leaf) (.sq (.bl (.sq .leaf (.sq (.sq .leaf (.cn (.sq .leaf .leaf) .leaf)) .leaf))) .leaf)))))) (.sq .leaf .leaf)))))))))
theorem f249.calls {Z : List PanicEntry → World → Prop} {x0 x1 x2 : Value} {w : World} {Q : Value → World → Prop} (h : f249.sh Z x0 x1 x2 w Q) : CallV Tryz.prog Z 249 #[x0, x1, x2] w Q :=
 cl Tryz.func249 f249.an [x0, x1, x2] (by kernel_rfl) (by kernel_rfl) h

def f250.sh (Z : List PanicEntry → World → Prop) (x0 : Value) (w : World) (Q : Value → World → Prop) : Prop :=
 run1 Tryz.prog Z (Instr.alloc 178 true (.tuple #[])) w fun t1 w =>
 CallV Tryz.prog Z 77 #[x0] w fun t2 w =>
 CallV Tryz.prog Z 252 #[x0] w fun t3 w =>
 run1 Tryz.prog Z (Instr.build 178 #[(0, t2), (1, t3)]) w fun t4 w =>
 run0 Tryz.prog Z (Instr.storeAt 178 t1 t4) w fun w =>
 ∃ r_5, (do loadVar 178 (← asAddr t1) : Sem Value).run Tryz.prog w = .ok r_5 w ∧
 Q r_5 w
def f250.an : An := (.sq .leaf (.sq .leaf (.sq .leaf .leaf)))
theorem f250.calls {Z : List PanicEntry → World → Prop} {x0 : Value} {w : World} {Q : Value → World → Prop} (h : f250.sh Z x0 w Q) : CallV Tryz.prog Z 250 #[x0] w Q :=
 cl Tryz.func250 f250.an [x0] (by kernel_rfl) (by kernel_rfl) h

def f251.sh (Z : List PanicEntry → World → Prop) (x0 x1 x2 : Value) (w : World) (Q : Value → World → Prop) : Prop :=
 CallV Tryz.prog Z 222 #[x0] w fun t1 w =>
 CallV Tryz.prog Z 223 #[x0] w fun t2 w =>
 run1 Tryz.prog Z (convert 21 3 t2) w fun t3 w =>
 CallV Tryz.prog Z 171 #[x0] w fun t4 w =>
 run1 Tryz.prog Z (Op.unary .not t4) w fun t5 w =>
 CondV t5 (
 Q (.slice none 0 0) w) (
 run1 Tryz.prog Z (binOp .lss 3 t3 (.int .i64 0)) w fun t6 w =>
 guardW (t6) false (fun k => k (t3) w) (fun t7 w =>
 guardW (t6) false (fun k => k (x1) w) (fun t8 w =>
 guardW (t6) false (fun k => run1 Tryz.prog Z (binOp .gtr 3 t7 t8) w k) (fun t9 w =>
 run1 Tryz.prog Z (pickV t6 (.bool true) t9) w fun t10 w =>
 CondV t10 (
 CallV Tryz.prog Z 224 #[x0, t1, (.int .i64 11)] w fun t11 w =>
 Q (.slice none 0 0) w) (
 runX Tryz.prog Z (nilChk x0) w fun t12 w =>
 run1 Tryz.prog Z (Instr.fieldAt 239 t12 1) w fun t13 w =>
 run1 Tryz.prog Z (Instr.loadAt 30 t13) w fun t14 w =>
 run1 Tryz.prog Z (Builtin.len_ #[30] 3 #[t14]) w fun t15 w =>
 run1 Tryz.prog Z (binOp .gtr 3 t3 t15) w fun t16 w =>
 CondV t16 (
 CallV Tryz.prog Z 224 #[x0, t1, (.int .i64 10)] w fun t17 w =>
 Q (.slice none 0 0) w) (
 run1 Tryz.prog Z (eqOp .eql 290 false true x2 .nilFunc) w fun t18 w =>
 CondV t18 (
 run1 Tryz.prog Z (Instr.makeSlice 32 t3 t3) w fun t19 w =>
 Q t19 w) (
 ∃ J_20 : Nat → Value → Value → World → Prop, (∃ m, J_20 m (.slice none 0 0) (.int .i64 0) w) ∧
 ∀ m_20, ∀ t21 : Value, ∀ t22 : Value, ∀ w : World, J_20 m_20 t21 t22 w → Env →
 run1 Tryz.prog Z (binOp .lss 3 t22 t3) w fun t23 w =>
 CondV t23 (
 runX Tryz.prog Z (callVal x2 #[x0]) w fun t24 w =>
 run1 Tryz.prog Z (Instr.alloc 175 true (.tuple #[])) w fun t25 w =>
 run0 Tryz.prog Z (Instr.storeAt 175 t25 t24) w fun w =>
 CallV Tryz.prog Z 171 #[x0] w fun t26 w =>
 run1 Tryz.prog Z (Op.unary .not t26) w fun t27 w =>
 CondV t27 (
 Q (.slice none 0 0) w) (
 run1 Tryz.prog Z (Instr.loadAt 175 t25) w fun t28 w =>
 run1 Tryz.prog Z (Instr.buildSlice 32 1 #[(0, t28)]) w fun t29 w =>
 run1 Tryz.prog Z (Builtin.append_ #[32, 32] 32 #[t21, t29]) w fun t30 w =>
 run1 Tryz.prog Z (binOp .add 3 t22 (.int .i64 1)) w fun t31 w =>
 ∃ n_20, n_20 < m_20 ∧ J_20 n_20 t30 t31 w)) (
 Q t21 w))))) w) w) w)
def f251.an : An := (.sq .leaf (.sq .leaf (.sq .leaf (.sq (.sq .leaf (.cn (.sq .leaf .leaf) .leaf)) (.sq (.bl (.sq .leaf (.cn (.sq .leaf (.sq .leaf .leaf)) (.sq .leaf (.cn (.sq .leaf (.sq .leaf .leaf)) .leaf))))) (.sq (.sq .leaf (.cn (.sq .leaf .leaf) .leaf)) (.sq .leaf (.sq (.sq .leaf (.bl (.lp [9, 46] (.sq .leaf (.sq (.cn .leaf .leaf) (.sq (.bl (.sq .leaf (.sq (.sq .leaf (.cn (.sq .leaf .leaf) .leaf)) .leaf))) .leaf)))))) (.sq .leaf .leaf)))))))))
theorem f251.calls {Z : List PanicEntry → World → Prop} {x0 x1 x2 : Value} {w : World} {Q : Value → World → Prop} (h : f251.sh Z x0 x1 x2 w Q) : CallV Tryz.prog Z 251 #[x0, x1, x2] w Q :=
 cl Tryz.func251 f251.an [x0, x1, x2] (by kernel_rfl) (by kernel_rfl) h

def f252.sh (Z : List PanicEntry → World → Prop) (x0 : Value) (w : World) (Q : Value → World → Prop) : Prop :=
 run1 Tryz.prog Z (Instr.alloc 175 true (.tuple #[])) w fun t1 w =>
 CallV Tryz.prog Z 248 #[x0, (.int .i64 24)] w fun t2 w =>
 CallV Tryz.prog Z 248 #[x0, (.int .i64 24)] w fun t3 w =>
 run1 Tryz.prog Z (Instr.build 175 #[(0, t2), (1, t3)]) w fun t4 w =>
 run0 Tryz.prog Z (Instr.storeAt 175 t1 t4) w fun w =>
 ∃ r_5, (do loadVar 175 (← asAddr t1) : Sem Value).run Tryz.prog w = .ok r_5 w ∧
 Q r_5 w
def f252.an : An := (.sq .leaf (.sq .leaf (.sq .leaf .leaf)))
theorem f252.calls {Z : List PanicEntry → World → Prop} {x0 : Value} {w : World} {Q : Value → World → Prop} (h : f252.sh Z x0 w Q) : CallV Tryz.prog Z 252 #[x0] w Q :=
 cl Tryz.func252 f252.an [x0] (by kernel_rfl) (by kernel_rfl) h

def f253.sh (Z : List PanicEntry → World → Prop) (x0 x1 x2 : Value) (w : World) (Q : Value → World → Prop) : Prop :=
 CallV Tryz.prog Z 222 #[x0] w fun t1 w =>
 CallV Tryz.prog Z 223 #[x0] w fun t2 w =>
 run1 Tryz.prog Z (convert 21 3 t2) w fun t3 w =>
 CallV Tryz.prog Z 171 #[x0] w fun t4 w =>
 run1 Tryz.prog Z (Op.unary .not t4) w fun t5 w =>
 CondV t5 (
 Q (.slice none 0 0) w) (
 run1 Tryz.prog Z (binOp .lss 3 t3 (.int .i64 0)) w fun t6 w =>
 guardW (t6) false (fun k => k (t3) w) (fun t7 w =>
 guardW (t6) false (fun k => k (x1) w) (fun t8 w =>
 guardW (t6) false (fun k => run1 Tryz.prog Z (binOp .gtr 3 t7 t8) w k) (fun t9 w =>
 run1 Tryz.prog Z (pickV t6 (.bool true) t9) w fun t10 w =>
 CondV t10 (
 CallV Tryz.prog Z 224 #[x0, t1, (.int .i64 11)] w fun t11 w =>
 Q (.slice none 0 0) w) (
 runX Tryz.prog Z (nilChk x0) w fun t12 w =>
 run1 Tryz.prog Z (Instr.fieldAt 239 t12 1) w fun t13 w =>
 run1 Tryz.prog Z (Instr.loadAt 30 t13) w fun t14 w =>
 run1 Tryz.prog Z (Builtin.len_ #[30] 3 #[t14]) w fun t15 w =>
 run1 Tryz.prog Z (binOp .gtr 3 t3 t15) w fun t16 w =>
 CondV t16 (
 CallV Tryz.prog Z 224 #[x0, t1, (.int .i64 10)] w fun t17 w =>
 Q (.slice none 0 0) w) (
 run1 Tryz.prog Z (eqOp .eql 269 false true x2 .nilFunc) w fun t18 w =>
 CondV t18 (
 run1 Tryz.prog Z (Instr.makeSlice 33 t3 t3) w fun t19 w =>
 Q t19 w) (
 ∃ J_20 : Nat → Value → Value → World → Prop, (∃ m, J_20 m (.slice none 0 0) (.int .i64 0) w) ∧
 ∀ m_20, ∀ t21 : Value, ∀ t22 : Value, ∀ w : World, J_20 m_20 t21 t22 w → Env →
 run1 Tryz.prog Z (binOp .lss 3 t22 t3) w fun t23 w =>
 CondV t23 (
 runX Tryz.prog Z (callVal x2 #[x0]) w fun t24 w =>
 run1 Tryz.prog Z (Instr.alloc 35 true (.tuple #[])) w fun t25 w =>
 run0 Tryz.prog Z (Instr.storeAt 35 t25 t24) w fun w =>
 CallV Tryz.prog Z 171 #[x0] w fun t26 w =>
 run1 Tryz.prog Z (Op.unary .not t26) w fun t27 w =>
 CondV t27 (
 Q (.slice none 0 0) w) (
 run1 Tryz.prog Z (Instr.loadAt 35 t25) w fun t28 w =>
 run1 Tryz.prog Z (Instr.buildSlice 33 1 #[(0, t28)]) w fun t29 w =>
 run1 Tryz.prog Z (Builtin.append_ #[33, 33] 33 #[t21, t29]) w fun t30 w =>
 run1 Tryz.prog Z (binOp .add 3 t22 (.int .i64 1)) w fun t31 w =>
 ∃ n_20, n_20 < m_20 ∧ J_20 n_20 t30 t31 w)) (
 Q t21 w))))) w) w) w)
def f253.an : An := (.sq .leaf (.sq .leaf (.sq .leaf (.sq (.sq .leaf (.cn (.sq .leaf .leaf) .leaf)) (.sq (.bl (.sq .leaf (.cn (.sq .leaf (.sq .leaf .leaf)) (.sq .leaf (.cn (.sq .leaf (.sq .leaf .leaf)) .leaf))))) (.sq (.sq .leaf (.cn (.sq .leaf .leaf) .leaf)) (.sq .leaf (.sq (.sq .leaf (.bl (.lp [9, 46] (.sq .leaf (.sq (.cn .leaf .leaf) (.sq (.bl (.sq .leaf (.sq (.sq .leaf (.cn (.sq .leaf .leaf) .leaf)) .leaf))) .leaf)))))) (.sq .leaf .leaf)))))))))
theorem f253.calls {Z : List PanicEntry → World → Prop} {x0 x1 x2 : Value} {w : World} {Q : Value → World → Prop} (h : f253.sh Z x0 x1 x2 w Q) : CallV Tryz.prog Z 253 #[x0, x1, x2] w Q :=
 cl Tryz.func253 f253.an [x0, x1, x2] (by kernel_rfl) (by kernel_rfl) h

def f254.sh (Z : List PanicEntry → World → Prop) (x0 : Value) (w : World) (Q : Value → World → Prop) : Prop :=
 run1 Tryz.prog Z (Instr.box 35 x0) w fun t1 w =>
 run1 Tryz.prog Z (Instr.fieldAt 35 t1 0) w fun t2 w =>
 run1 Tryz.prog Z (Instr.loadAt 22 t2) w fun t3 w =>
 run1 Tryz.prog Z (Instr.indexAt 296 (.pointer (some ⟨1, 0, none⟩)) t3) w fun t4 w =>
 run1 Tryz.prog Z (Instr.loadAt 155 t4) w fun t5 w =>
 run1 Tryz.prog Z (Instr.alloc 155 true (.tuple #[])) w fun t6 w =>
 run0 Tryz.prog Z (Instr.storeAt 155 t6 t5) w fun w =>
 run1 Tryz.prog Z (Instr.makeFunc (.func 261) #[] #[t6]) w fun t7 w =>
 ∀ j_8 : World → Prop, (∀ w : World, (Env →
 run1 Tryz.prog Z (Instr.fieldAt 35 t1 3) w fun t9 w =>
 run1 Tryz.prog Z (Instr.loadAt 31 t9) w fun t10 w =>
 run1 Tryz.prog Z (Builtin.len_ #[31] 3 #[t10]) w fun t11 w =>
 ∃ J_12 : Nat → Value → World → Prop, (∃ m, J_12 m (.int .i64 0) w) ∧
 ∀ m_12, ∀ t13 : Value, ∀ w : World, J_12 m_12 t13 w → Env →
 run1 Tryz.prog Z (binOp .lss 3 t13 t11) w fun t14 w =>
 CondV t14 (
 run1 Tryz.prog Z (Instr.indexAt 31 t10 t13) w fun t15 w =>
 run1 Tryz.prog Z (Instr.loadAt 178 t15) w fun t16 w =>
 run1 Tryz.prog Z (Instr.alloc 178 true (.tuple #[])) w fun t17 w =>
 run0 Tryz.prog Z (Instr.storeAt 178 t17 t16) w fun w =>
 run1 Tryz.prog Z (Instr.fieldAt 178 t17 1) w fun t18 w =>
 run1 Tryz.prog Z (Instr.loadAt 175 t18) w fun t19 w =>
 CallV Tryz.prog Z 262 #[t19] w fun t20 w =>
 run1 Tryz.prog Z (Op.unary .not t20) w fun t21 w =>
 CondV t21 (
 Q (.bool false) w) (
 run1 Tryz.prog Z (binOp .add 3 t13 (.int .i64 1)) w fun t22 w =>
 ∃ n_12, n_12 < m_12 ∧ J_12 n_12 t22 w)) (
 run1 Tryz.prog Z (Instr.fieldAt 35 t1 9) w fun t23 w =>
 run1 Tryz.prog Z (Instr.loadAt 32 t23) w fun t24 w =>
 CallV Tryz.prog Z 263 #[t24, (.func (.func 264) #[] #[])] w fun t25 w =>
 run1 Tryz.prog Z (Op.unary .not t25) w fun t26 w =>
 Q t26 w)) →
 j_8 w) →
 ∀ j_27 : Value → World → Prop, (∀ t28 : Value, ∀ w : World, (Env →
 CondV t28 (
 Q (.bool false) w) (
 ∀ j_29 : Value → World → Prop, (∀ t30 : Value, ∀ w : World, (Env →
 CondV t30 (
 Q (.bool false) w) (
 ∀ j_31 : Value → World → Prop, (∀ t32 : Value, ∀ w : World, (Env →
 CondV t32 (
 Q (.bool false) w) (
 ∀ j_33 : Value → World → Prop, (∀ t34 : Value, ∀ w : World, (Env →
 CondV t34 (
 Q (.bool false) w) (
 j_8 w)) →
 j_33 t34 w) →
 run1 Tryz.prog Z (Instr.fieldAt 35 t1 7) w fun t35 w =>
 run1 Tryz.prog Z (Instr.loadAt 2 t35) w fun t36 w =>
 run1 Tryz.prog Z (binOp .lss 2 t36 (.int .i64 0)) w fun t37 w =>
 CondV t37 (
 j_33 t37 w) (
 run1 Tryz.prog Z (Instr.fieldAt 35 t1 0) w fun t38 w =>
 run1 Tryz.prog Z (Instr.loadAt 22 t38) w fun t39 w =>
 run1 Tryz.prog Z (eqOp .eql 22 false true t39 (.int .i8 8)) w fun t40 w =>
 guardW (t40) true (fun k => run1 Tryz.prog Z (Instr.fieldAt 35 t1 7) w k) (fun t41 w =>
 guardW (t40) true (fun k => run1 Tryz.prog Z (Instr.loadAt 2 t41) w k) (fun t42 w =>
 guardW (t40) true (fun k => run1 Tryz.prog Z (eqOp .eql 2 false true t42 (.int .i64 0)) w k) (fun t43 w =>
 run1 Tryz.prog Z (pickV t40 t43 (.bool false)) w fun t44 w =>
 CondV t44 (
 j_33 t44 w) (
 runX Tryz.prog Z (callVal t7 #[(.int .u64 64)]) w fun t45 w =>
 guardW (t45) true (fun k => run1 Tryz.prog Z (Instr.fieldAt 35 t1 8) w k) (fun t46 w =>
 guardW (t45) true (fun k => run1 Tryz.prog Z (Instr.loadAt 21 t46) w k) (fun t47 w =>
 guardW (t45) true (fun k => run1 Tryz.prog Z (binOp .lss 21 t47 (.int .i32 1)) w k) (fun t48 w =>
 guardW (t45) true (fun k => k (t48) w) (fun t49 w =>
 guardW (t49) false (fun k => run1 Tryz.prog Z (Instr.fieldAt 35 t1 8) w k) (fun t50 w =>
 guardW (t49) false (fun k => run1 Tryz.prog Z (Instr.loadAt 21 t50) w k) (fun t51 w =>
 guardW (t49) false (fun k => run1 Tryz.prog Z (binOp .gtr 21 t51 (.int .i32 1000)) w k) (fun t52 w =>
 guardW (t45) true (fun k => run1 Tryz.prog Z (pickV t49 (.bool true) t52) w k) (fun t53 w =>
 run1 Tryz.prog Z (pickV t45 t53 (.bool false)) w fun t54 w =>
 CondV t54 (
 j_33 t54 w) (
 runX Tryz.prog Z (callVal t7 #[(.int .u64 256)]) w fun t55 w =>
 guardW (t55) true (fun k => run1 Tryz.prog Z (Instr.fieldAt 35 t1 10) w k) (fun t56 w =>
 guardW (t55) true (fun k => run1 Tryz.prog Z (Instr.loadAt 33 t56) w k) (fun t57 w =>
 guardW (t55) true (fun k => run1 Tryz.prog Z (Builtin.len_ #[33] 3 #[t57]) w k) (fun t58 w =>
 guardW (t55) true (fun k => run1 Tryz.prog Z (eqOp .eql 3 false true t58 (.int .i64 0)) w k) (fun t59 w =>
 run1 Tryz.prog Z (pickV t55 t59 (.bool false)) w fun t60 w =>
 j_33 t60 w) w) w) w) w)) w) w) w) w) w) w) w) w)) w) w) w))) →
 j_31 t32 w) →
 run1 Tryz.prog Z (Instr.fieldAt 35 t1 1) w fun t61 w =>
 run1 Tryz.prog Z (Instr.loadAt 9 t61) w fun t62 w =>
 run1 Tryz.prog Z (Builtin.len_ #[9] 3 #[t62]) w fun t63 w =>
 run1 Tryz.prog Z (binOp .gtr 3 t63 (.int .i64 64)) w fun t64 w =>
 CondV t64 (
 j_31 t64 w) (
 run1 Tryz.prog Z (Instr.fieldAt 35 t1 2) w fun t65 w =>
 run1 Tryz.prog Z (Instr.loadAt 30 t65) w fun t66 w =>
 run1 Tryz.prog Z (Builtin.len_ #[30] 3 #[t66]) w fun t67 w =>
 run1 Tryz.prog Z (binOp .gtr 3 t67 (.int .i64 96)) w fun t68 w =>
 CondV t68 (
 j_31 t68 w) (
 run1 Tryz.prog Z (Instr.fieldAt 35 t1 3) w fun t69 w =>
 run1 Tryz.prog Z (Instr.loadAt 31 t69) w fun t70 w =>
 run1 Tryz.prog Z (Builtin.len_ #[31] 3 #[t70]) w fun t71 w =>
 run1 Tryz.prog Z (binOp .gtr 3 t71 (.int .i64 4)) w fun t72 w =>
 CondV t72 (
 j_31 t72 w) (
 run1 Tryz.prog Z (Instr.fieldAt 35 t1 9) w fun t73 w =>
 run1 Tryz.prog Z (Instr.loadAt 32 t73) w fun t74 w =>
 run1 Tryz.prog Z (Builtin.len_ #[32] 3 #[t74]) w fun t75 w =>
 run1 Tryz.prog Z (binOp .gtr 3 t75 (.int .i64 4)) w fun t76 w =>
 CondV t76 (
 j_31 t76 w) (
 run1 Tryz.prog Z (Instr.fieldAt 35 t1 10) w fun t77 w =>
 run1 Tryz.prog Z (Instr.loadAt 33 t77) w fun t78 w =>
 run1 Tryz.prog Z (Builtin.len_ #[33] 3 #[t78]) w fun t79 w =>
 run1 Tryz.prog Z (binOp .gtr 3 t79 (.int .i64 8)) w fun t80 w =>
 j_31 t80 w)))))) →
 j_29 t30 w) →
 runX Tryz.prog Z (callVal t7 #[(.int .u64 16)]) w fun t81 w =>
 run1 Tryz.prog Z (Op.unary .not t81) w fun t82 w =>
 guardW (t82) true (fun k => run1 Tryz.prog Z (Instr.fieldAt 35 t1 5) w k) (fun t83 w =>
 guardW (t82) true (fun k => run1 Tryz.prog Z (Instr.loadAt 4 t83) w k) (fun t84 w =>
 guardW (t82) true (fun k => k (t84) w) (fun t85 w =>
 guardW (t85) false (fun k => run1 Tryz.prog Z (Instr.fieldAt 35 t1 6) w k) (fun t86 w =>
 guardW (t85) false (fun k => run1 Tryz.prog Z (Instr.loadAt 4 t86) w k) (fun t87 w =>
 guardW (t82) true (fun k => run1 Tryz.prog Z (pickV t85 (.bool true) t87) w k) (fun t88 w =>
 run1 Tryz.prog Z (pickV t82 t88 (.bool false)) w fun t89 w =>
 CondV t89 (
 j_29 t89 w) (
 runX Tryz.prog Z (callVal t7 #[(.int .u64 32)]) w fun t90 w =>
 run1 Tryz.prog Z (Op.unary .not t90) w fun t91 w =>
 guardW (t91) true (fun k => run1 Tryz.prog Z (Instr.fieldAt 35 t1 7) w k) (fun t92 w =>
 guardW (t91) true (fun k => run1 Tryz.prog Z (Instr.loadAt 2 t92) w k) (fun t93 w =>
 guardW (t91) true (fun k => run1 Tryz.prog Z (eqOp .neq 2 false true t93 (.int .i64 0)) w k) (fun t94 w =>
 run1 Tryz.prog Z (pickV t91 t94 (.bool false)) w fun t95 w =>
 CondV t95 (
 j_29 t95 w) (
 runX Tryz.prog Z (callVal t7 #[(.int .u64 64)]) w fun t96 w =>
 run1 Tryz.prog Z (Op.unary .not t96) w fun t97 w =>
 guardW (t97) true (fun k => run1 Tryz.prog Z (Instr.fieldAt 35 t1 8) w k) (fun t98 w =>
 guardW (t97) true (fun k => run1 Tryz.prog Z (Instr.loadAt 21 t98) w k) (fun t99 w =>
 guardW (t97) true (fun k => run1 Tryz.prog Z (eqOp .neq 21 false true t99 (.int .i32 0)) w k) (fun t100 w =>
 run1 Tryz.prog Z (pickV t97 t100 (.bool false)) w fun t101 w =>
 CondV t101 (
 j_29 t101 w) (
 runX Tryz.prog Z (callVal t7 #[(.int .u64 128)]) w fun t102 w =>
 run1 Tryz.prog Z (Op.unary .not t102) w fun t103 w =>
 guardW (t103) true (fun k => run1 Tryz.prog Z (Instr.fieldAt 35 t1 9) w k) (fun t104 w =>
 guardW (t103) true (fun k => run1 Tryz.prog Z (Instr.loadAt 32 t104) w k) (fun t105 w =>
 guardW (t103) true (fun k => run1 Tryz.prog Z (Builtin.len_ #[32] 3 #[t105]) w k) (fun t106 w =>
 guardW (t103) true (fun k => run1 Tryz.prog Z (binOp .gtr 3 t106 (.int .i64 0)) w k) (fun t107 w =>
 run1 Tryz.prog Z (pickV t103 t107 (.bool false)) w fun t108 w =>
 CondV t108 (
 j_29 t108 w) (
 runX Tryz.prog Z (callVal t7 #[(.int .u64 256)]) w fun t109 w =>
 run1 Tryz.prog Z (Op.unary .not t109) w fun t110 w =>
 guardW (t110) true (fun k => run1 Tryz.prog Z (Instr.fieldAt 35 t1 10) w k) (fun t111 w =>
 guardW (t110) true (fun k => run1 Tryz.prog Z (Instr.loadAt 33 t111) w k) (fun t112 w =>
 guardW (t110) true (fun k => run1 Tryz.prog Z (Builtin.len_ #[33] 3 #[t112]) w k) (fun t113 w =>
 guardW (t110) true (fun k => run1 Tryz.prog Z (binOp .gtr 3 t113 (.int .i64 0)) w k) (fun t114 w =>
 run1 Tryz.prog Z (pickV t110 t114 (.bool false)) w fun t115 w =>
 j_29 t115 w) w) w) w) w)) w) w) w) w)) w) w) w)) w) w) w)) w) w) w) w) w) w)) →
 j_27 t28 w) →
 runX Tryz.prog Z (callVal t7 #[(.int .u64 1)]) w fun t116 w =>
 run1 Tryz.prog Z (Op.unary .not t116) w fun t117 w =>
 guardW (t117) true (fun k => run1 Tryz.prog Z (Instr.fieldAt 35 t1 1) w k) (fun t118 w =>
 guardW (t117) true (fun k => run1 Tryz.prog Z (Instr.loadAt 9 t118) w k) (fun t119 w =>
 guardW (t117) true (fun k => run1 Tryz.prog Z (eqOp .neq 9 false true t119 (.string { data := #[] })) w k) (fun t120 w =>
 run1 Tryz.prog Z (pickV t117 t120 (.bool false)) w fun t121 w =>
 CondV t121 (
 j_27 t121 w) (
 runX Tryz.prog Z (callVal t7 #[(.int .u64 2)]) w fun t122 w =>
 run1 Tryz.prog Z (Op.unary .not t122) w fun t123 w =>
 guardW (t123) true (fun k => run1 Tryz.prog Z (Instr.fieldAt 35 t1 2) w k) (fun t124 w =>
 guardW (t123) true (fun k => run1 Tryz.prog Z (Instr.loadAt 30 t124) w k) (fun t125 w =>
 guardW (t123) true (fun k => run1 Tryz.prog Z (Builtin.len_ #[30] 3 #[t125]) w k) (fun t126 w =>
 guardW (t123) true (fun k => run1 Tryz.prog Z (binOp .gtr 3 t126 (.int .i64 0)) w k) (fun t127 w =>
 run1 Tryz.prog Z (pickV t123 t127 (.bool false)) w fun t128 w =>
 CondV t128 (
 j_27 t128 w) (
 runX Tryz.prog Z (callVal t7 #[(.int .u64 4)]) w fun t129 w =>
 run1 Tryz.prog Z (Op.unary .not t129) w fun t130 w =>
 guardW (t130) true (fun k => run1 Tryz.prog Z (Instr.fieldAt 35 t1 3) w k) (fun t131 w =>
 guardW (t130) true (fun k => run1 Tryz.prog Z (Instr.loadAt 31 t131) w k) (fun t132 w =>
 guardW (t130) true (fun k => run1 Tryz.prog Z (Builtin.len_ #[31] 3 #[t132]) w k) (fun t133 w =>
 guardW (t130) true (fun k => run1 Tryz.prog Z (binOp .gtr 3 t133 (.int .i64 0)) w k) (fun t134 w =>
 run1 Tryz.prog Z (pickV t130 t134 (.bool false)) w fun t135 w =>
 CondV t135 (
 j_27 t135 w) (
 runX Tryz.prog Z (callVal t7 #[(.int .u64 8)]) w fun t136 w =>
 run1 Tryz.prog Z (Op.unary .not t136) w fun t137 w =>
 guardW (t137) true (fun k => run1 Tryz.prog Z (Instr.fieldAt 35 t1 4) w k) (fun t138 w =>
 guardW (t137) true (fun k => run1 Tryz.prog Z (Instr.loadAt 21 t138) w k) (fun t139 w =>
 guardW (t137) true (fun k => run1 Tryz.prog Z (eqOp .neq 21 false true t139 (.int .i32 0)) w k) (fun t140 w =>
 run1 Tryz.prog Z (pickV t137 t140 (.bool false)) w fun t141 w =>
 j_27 t141 w) w) w) w)) w) w) w) w)) w) w) w) w)) w) w) w
def f254.an : An := (.sq .leaf (.sq .leaf (.sq .leaf (.sj [] (.bl (.sj [12] (.sq .leaf (.cn .leaf (.sq .leaf (.cn .leaf (.sq .leaf (.cn .leaf .leaf)))))) (.cn (.sq .leaf .leaf) (.sj [47] (.sq .leaf (.cn .leaf (.sq .leaf (.cn .leaf (.sq .leaf (.cn .leaf (.sq .leaf (.cn .leaf .leaf)))))))) (.cn (.sq .leaf .leaf) (.sj [93] (.sq .leaf (.cn .leaf (.sq .leaf (.cn .leaf (.sq .leaf (.cn .leaf (.sq .leaf (.cn .leaf .leaf)))))))) (.cn (.sq .leaf .leaf) (.sj [114] (.sq .leaf (.cn .leaf (.sq .leaf (.cn .leaf (.sq .leaf (.cn .leaf .leaf)))))) (.cn (.sq .leaf .leaf) .leaf))))))))) (.sq (.sq .leaf (.bl (.lp [149] (.sq .leaf (.sq (.cn .leaf .leaf) (.sq (.bl (.sq .leaf (.sq .leaf (.cn (.sq .leaf .leaf) .leaf)))) .leaf)))))) (.sq .leaf .leaf))))))
theorem f254.calls {Z : List PanicEntry → World → Prop} {x0 : Value} {w : World} {Q : Value → World → Prop} (h : f254.sh Z x0 w Q) : CallV Tryz.prog Z 254 #[x0] w Q :=
 cl Tryz.func254 f254.an [x0] (by kernel_rfl) (by kernel_rfl) h

def f255.sh (Z : List PanicEntry → World → Prop) (x0 : Value) (w : World) (Q : Value → World → Prop) : Prop :=
 run1 Tryz.prog Z (Instr.box 35 x0) w fun t1 w =>
 run1 Tryz.prog Z (Instr.fieldAt 35 t1 0) w fun t2 w =>
 run1 Tryz.prog Z (Instr.loadAt 22 t2) w fun t3 w =>
 run1 Tryz.prog Z (binOp .geq 22 t3 (.int .i8 1)) w fun t4 w =>
 guardW (t4) true (fun k => run1 Tryz.prog Z (Instr.fieldAt 35 t1 0) w k) (fun t5 w =>
 guardW (t4) true (fun k => run1 Tryz.prog Z (Instr.loadAt 22 t5) w k) (fun t6 w =>
 guardW (t4) true (fun k => run1 Tryz.prog Z (binOp .leq 22 t6 (.int .i8 5)) w k) (fun t7 w =>
 run1 Tryz.prog Z (pickV t4 t7 (.bool false)) w fun t8 w =>
 guardW (t8) true (fun k => run1 Tryz.prog Z (Instr.fieldAt 35 t1 7) w k) (fun t9 w =>
 guardW (t8) true (fun k => run1 Tryz.prog Z (Instr.loadAt 2 t9) w k) (fun t10 w =>
 guardW (t8) true (fun k => run1 Tryz.prog Z (eqOp .eql 2 false true t10 (.int .i64 0)) w k) (fun t11 w =>
 run1 Tryz.prog Z (pickV t8 t11 (.bool false)) w fun t12 w =>
 guardW (t12) true (fun k => run1 Tryz.prog Z (Instr.fieldAt 35 t1 9) w k) (fun t13 w =>
 guardW (t12) true (fun k => run1 Tryz.prog Z (Instr.loadAt 32 t13) w k) (fun t14 w =>
 guardW (t12) true (fun k => run1 Tryz.prog Z (Builtin.len_ #[32] 3 #[t14]) w k) (fun t15 w =>
 guardW (t12) true (fun k => run1 Tryz.prog Z (eqOp .eql 3 false true t15 (.int .i64 0)) w k) (fun t16 w =>
 run1 Tryz.prog Z (pickV t12 t16 (.bool false)) w fun t17 w =>
 guardW (t17) true (fun k => run1 Tryz.prog Z (Instr.loadAt 35 t1) w k) (fun t18 w =>
 guardW (t17) true (fun k => CallV Tryz.prog Z 254 #[t18] w k) (fun t19 w =>
 run1 Tryz.prog Z (pickV t17 t19 (.bool false)) w fun t20 w =>
 Q t20 w) w) w) w) w) w) w) w) w) w) w) w) w
def f255.an : An := (.sq .leaf (.sq .leaf .leaf))
theorem f255.calls {Z : List PanicEntry → World → Prop} {x0 : Value} {w : World} {Q : Value → World → Prop} (h : f255.sh Z x0 w Q) : CallV Tryz.prog Z 255 #[x0] w Q :=
 cl Tryz.func255 f255.an [x0] (by kernel_rfl) (by kernel_rfl) h

def f256.sh (Z : List PanicEntry → World → Prop) (x0 : Value) (w : World) (Q : Value → World → Prop) : Prop :=
 run1 Tryz.prog Z (eqOp .neq 23 false false x0 x0) w fun t1 w =>
 Q t1 w
def f256.an : An := (.sq .leaf (.sq .leaf .leaf))
theorem f256.calls {Z : List PanicEntry → World → Prop} {x0 : Value} {w : World} {Q : Value → World → Prop} (h : f256.sh Z x0 w Q) : CallV Tryz.prog Z 256 #[x0] w Q :=
 cl Tryz.func256 f256.an [x0] (by kernel_rfl) (by kernel_rfl) h

def f261.sh (Z : List PanicEntry → World → Prop) (x0 x1 : Value) (w : World) (Q : Value → World → Prop) : Prop :=
 run1 Tryz.prog Z (Instr.loadAt 155 x1) w fun t1 w =>
 run1 Tryz.prog Z (binOp .and 155 t1 x0) w fun t2 w =>
 run1 Tryz.prog Z (eqOp .neq 155 false true t2 (.int .u64 0)) w fun t3 w =>
 Q t3 w
def f261.an : An := (.sq .leaf (.sq .leaf .leaf))
theorem f261.calls {Z : List PanicEntry → World → Prop} {x0 x1 : Value} {w : World} {Q : Value → World → Prop} (h : f261.sh Z x0 x1 w Q) : CallV Tryz.prog Z 261 #[x0, x1] w Q :=
 cl Tryz.func261 f261.an [x0, x1] (by kernel_rfl) (by kernel_rfl) h

def f262.sh (Z : List PanicEntry → World → Prop) (x0 : Value) (w : World) (Q : Value → World → Prop) : Prop :=
 run1 Tryz.prog Z (Instr.box 175 x0) w fun t1 w =>
 run1 Tryz.prog Z (Instr.fieldAt 175 t1 0) w fun t2 w =>
 run1 Tryz.prog Z (Instr.loadAt 9 t2) w fun t3 w =>
 run1 Tryz.prog Z (Builtin.len_ #[9] 3 #[t3]) w fun t4 w =>
 run1 Tryz.prog Z (binOp .leq 3 t4 (.int .i64 24)) w fun t5 w =>
 guardW (t5) true (fun k => run1 Tryz.prog Z (Instr.fieldAt 175 t1 1) w k) (fun t6 w =>
 guardW (t5) true (fun k => run1 Tryz.prog Z (Instr.loadAt 9 t6) w k) (fun t7 w =>
 guardW (t5) true (fun k => run1 Tryz.prog Z (Builtin.len_ #[9] 3 #[t7]) w k) (fun t8 w =>
 guardW (t5) true (fun k => run1 Tryz.prog Z (binOp .leq 3 t8 (.int .i64 24)) w k) (fun t9 w =>
 run1 Tryz.prog Z (pickV t5 t9 (.bool false)) w fun t10 w =>
 Q t10 w) w) w) w) w
def f262.an : An := (.sq .leaf (.sq .leaf .leaf))
theorem f262.calls {Z : List PanicEntry → World → Prop} {x0 : Value} {w : World} {Q : Value → World → Prop} (h : f262.sh Z x0 w Q) : CallV Tryz.prog Z 262 #[x0] w Q :=
 cl Tryz.func262 f262.an [x0] (by kernel_rfl) (by kernel_rfl) h

def f263.sh (Z : List PanicEntry → World → Prop) (x0 x1 : Value) (w : World) (Q : Value → World → Prop) : Prop :=
 CallV Tryz.prog Z 269 #[x0, x1] w fun t1 w =>
 run1 Tryz.prog Z (binOp .geq 3 t1 (.int .i64 0)) w fun t2 w =>
 Q t2 w
def f263.an : An := (.sq .leaf (.sq .leaf .leaf))
theorem f263.calls {Z : List PanicEntry → World → Prop} {x0 x1 : Value} {w : World} {Q : Value → World → Prop} (h : f263.sh Z x0 x1 w Q) : CallV Tryz.prog Z 263 #[x0, x1] w Q :=
 cl Tryz.func263 f263.an [x0, x1] (by kernel_rfl) (by kernel_rfl) h

def f264.sh (Z : List PanicEntry → World → Prop) (x0 : Value) (w : World) (Q : Value → World → Prop) : Prop :=
 run1 Tryz.prog Z (Instr.box 175 x0) w fun t1 w =>
 run1 Tryz.prog Z (Instr.loadAt 175 t1) w fun t2 w =>
 CallV Tryz.prog Z 262 #[t2] w fun t3 w =>
 run1 Tryz.prog Z (Op.unary .not t3) w fun t4 w =>
 Q t4 w
def f264.an : An := (.sq .leaf (.sq .leaf .leaf))
theorem f264.calls {Z : List PanicEntry → World → Prop} {x0 : Value} {w : World} {Q : Value → World → Prop} (h : f264.sh Z x0 w Q) : CallV Tryz.prog Z 264 #[x0] w Q :=
 cl Tryz.func264 f264.an [x0] (by kernel_rfl) (by kernel_rfl) h

def f269.sh (Z : List PanicEntry → World → Prop) (x0 x1 : Value) (w : World) (Q : Value → World → Prop) : Prop :=
 run1 Tryz.prog Z (Builtin.len_ #[32] 3 #[x0]) w fun t1 w =>
 ∃ J_2 : Nat → Value → World → Prop, (∃ m, J_2 m (.int .i64 0) w) ∧
 ∀ m_2, ∀ t3 : Value, ∀ w : World, J_2 m_2 t3 w → Env →
 run1 Tryz.prog Z (binOp .lss 3 t3 t1) w fun t4 w =>
 CondV t4 (
 run1 Tryz.prog Z (Instr.indexAt 32 x0 t3) w fun t5 w =>
 run1 Tryz.prog Z (Instr.loadAt 175 t5) w fun t6 w =>
 runX Tryz.prog Z (callVal x1 #[t6]) w fun t7 w =>
 CondV t7 (
 Q t3 w) (
 run1 Tryz.prog Z (binOp .add 3 t3 (.int .i64 1)) w fun t8 w =>
 ∃ n_2, n_2 < m_2 ∧ J_2 n_2 t8 w)) (
 Q (.int .i64 (-1)) w)
def f269.an : An := (.sq .leaf (.sq (.sq .leaf (.bl (.lp [8] (.sq .leaf (.sq (.cn .leaf .leaf) (.sq (.bl (.sq .leaf (.sq .leaf (.cn (.sq .leaf .leaf) .leaf)))) .leaf)))))) (.sq .leaf .leaf)))
theorem f269.calls {Z : List PanicEntry → World → Prop} {x0 x1 : Value} {w : World} {Q : Value → World → Prop} (h : f269.sh Z x0 x1 w Q) : CallV Tryz.prog Z 269 #[x0, x1] w Q :=
 cl Tryz.func269 f269.an [x0, x1] (by kernel_rfl) (by kernel_rfl) h

end Go.Proofs.YtfijkedmbaghmaaGreatDoor
