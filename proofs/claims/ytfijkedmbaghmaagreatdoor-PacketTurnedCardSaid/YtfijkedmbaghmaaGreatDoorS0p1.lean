import Derived.Test.YtfijkedmbaghmaaGreatDoorShBase
set_option linter.unusedVariables false
namespace Go.Proofs.YtfijkedmbaghmaaGreatDoor
open Go.Sh
def f169.sh (Z : List PanicEntry → World → Prop) (x0 x1 : Value) (w : World) (Q : Value → World → Prop) : Prop :=
 CallV Tryz.prog Z 193 #[x0, x1] w fun t1 w =>
 run1 Tryz.prog Z (Instr.extract t1 0) w fun t2 w =>
 run1 Tryz.prog Z (Instr.extract t1 1) w fun t3 w =>
 run1 Tryz.prog Z (Op.unary .not t3) w fun t4 w =>
 CondV t4 (
 Q (.int .u64 0) w) (
 run1 Tryz.prog Z (Builtin.len_ #[30] 3 #[t2]) w fun t5 w =>
 ∃ J_6 : Nat → Value → Value → World → Prop, (∃ m, J_6 m (.int .u64 0) (.int .i64 0) w) ∧
 ∀ m_6, ∀ t7 : Value, ∀ t8 : Value, ∀ w : World, J_6 m_6 t7 t8 w → Env →
 run1 Tryz.prog Z (binOp .lss 3 t8 t5) w fun t9 w =>
 CondV t9 (
 run1 Tryz.prog Z (Instr.indexAt 30 t2 t8) w fun t10 w =>
 run1 Tryz.prog Z (Instr.loadAt 5 t10) w fun t11 w =>
 run1 Tryz.prog Z (binOp .shl 147 t7 (.int .u64 8)) w fun t12 w =>
 run1 Tryz.prog Z (convert 5 147 t11) w fun t13 w =>
 run1 Tryz.prog Z (binOp .or 147 t12 t13) w fun t14 w =>
 run1 Tryz.prog Z (binOp .add 3 t8 (.int .i64 1)) w fun t15 w =>
 ∃ n_6, n_6 < m_6 ∧ J_6 n_6 t14 t15 w) (
 runX Tryz.prog Z (nilChk x0) w fun t16 w =>
 run1 Tryz.prog Z (Instr.fieldAt 239 t16 1) w fun t17 w =>
 run1 Tryz.prog Z (Instr.loadAt 30 t17) w fun t18 w =>
 run1 Tryz.prog Z (Instr.sliceAt 30 t18 (some x1) none none) w fun t19 w =>
 runX Tryz.prog Z (nilChk x0) w fun t20 w =>
 run1 Tryz.prog Z (Instr.fieldAt 239 t20 1) w fun t21 w =>
 run0 Tryz.prog Z (Instr.storeAt 30 t21 t19) w fun w =>
 Q t7 w))
def f169.an : An := (.sq .leaf (.sq .leaf (.sq (.sq .leaf (.cn (.sq .leaf .leaf) .leaf)) (.sq .leaf (.sq (.sq .leaf (.bl (.lp [7, 20] (.sq .leaf (.sq (.cn .leaf .leaf) (.sq (.bl (.sq .leaf .leaf)) .leaf)))))) (.sq .leaf (.sq .leaf .leaf)))))))
theorem f169.calls {Z : List PanicEntry → World → Prop} {x0 x1 : Value} {w : World} {Q : Value → World → Prop} (h : f169.sh Z x0 x1 w Q) : CallV Tryz.prog Z 169 #[x0, x1] w Q :=
 cl Tryz.func169 f169.an [x0, x1] (by kernel_rfl) (by kernel_rfl) h

def f170.sh (Z : List PanicEntry → World → Prop) (x0 : Value) (w : World) (Q : Value → World → Prop) : Prop :=
 run1 Tryz.prog Z (eqOp .eql 136 false true x0 (.pointer none)) w fun t1 w =>
 guardW (t1) false (fun k => k (x0) w) (fun t2 w =>
 guardW (t1) false (fun k => runX Tryz.prog Z (nilChk t2) w k) (fun t3 w =>
 guardW (t1) false (fun k => run1 Tryz.prog Z (Instr.fieldAt 239 t3 0) w k) (fun t4 w =>
 guardW (t1) false (fun k => run1 Tryz.prog Z (Instr.loadAt 4 t4) w k) (fun t5 w =>
 guardW (t1) false (fun k => run1 Tryz.prog Z (Op.unary .not t5) w k) (fun t6 w =>
 run1 Tryz.prog Z (pickV t1 (.bool true) t6) w fun t7 w =>
 Q t7 w) w) w) w) w) w
def f170.an : An := (.sq .leaf (.sq .leaf .leaf))
theorem f170.calls {Z : List PanicEntry → World → Prop} {x0 : Value} {w : World} {Q : Value → World → Prop} (h : f170.sh Z x0 w Q) : CallV Tryz.prog Z 170 #[x0] w Q :=
 cl Tryz.func170 f170.an [x0] (by kernel_rfl) (by kernel_rfl) h

def f171.sh (Z : List PanicEntry → World → Prop) (x0 : Value) (w : World) (Q : Value → World → Prop) : Prop :=
 CallV Tryz.prog Z 170 #[x0] w fun t1 w =>
 run1 Tryz.prog Z (Op.unary .not t1) w fun t2 w =>
 guardW (t2) true (fun k => k (x0) w) (fun t3 w =>
 guardW (t2) true (fun k => runX Tryz.prog Z (nilChk t3) w k) (fun t4 w =>
 guardW (t2) true (fun k => run1 Tryz.prog Z (Instr.fieldAt 239 t4 2) w k) (fun t5 w =>
 guardW (t2) true (fun k => run1 Tryz.prog Z (Instr.loadAt 43 t5) w k) (fun t6 w =>
 guardW (t2) true (fun k => run1 Tryz.prog Z (eqOp .eql 43 false true t6 (.int .i64 0)) w k) (fun t7 w =>
 run1 Tryz.prog Z (pickV t2 t7 (.bool false)) w fun t8 w =>
 Q t8 w) w) w) w) w) w
def f171.an : An := (.sq .leaf (.sq .leaf .leaf))
theorem f171.calls {Z : List PanicEntry → World → Prop} {x0 : Value} {w : World} {Q : Value → World → Prop} (h : f171.sh Z x0 w Q) : CallV Tryz.prog Z 171 #[x0] w Q :=
 cl Tryz.func171 f171.an [x0] (by kernel_rfl) (by kernel_rfl) h

def f172.sh (Z : List PanicEntry → World → Prop) (x0 x1 : Value) (w : World) (Q : Value → World → Prop) : Prop :=
 run1 Tryz.prog Z (Instr.box 35 x0) w fun t1 w =>
 run1 Tryz.prog Z (binOp .add 3 x1 (.int .i64 1)) w fun t2 w =>
 run1 Tryz.prog Z (Instr.fieldAt 35 t1 2) w fun t3 w =>
 run1 Tryz.prog Z (Instr.loadAt 30 t3) w fun t4 w =>
 run1 Tryz.prog Z (Builtin.len_ #[30] 3 #[t4]) w fun t5 w =>
 run1 Tryz.prog Z (binOp .add 3 t2 t5) w fun t6 w =>
 run1 Tryz.prog Z (Instr.fieldAt 35 t1 3) w fun t7 w =>
 run1 Tryz.prog Z (Instr.loadAt 31 t7) w fun t8 w =>
 run1 Tryz.prog Z (Builtin.len_ #[31] 3 #[t8]) w fun t9 w =>
 run1 Tryz.prog Z (binOp .add 3 t6 t9) w fun t10 w =>
 run1 Tryz.prog Z (Instr.fieldAt 35 t1 9) w fun t11 w =>
 run1 Tryz.prog Z (Instr.loadAt 32 t11) w fun t12 w =>
 run1 Tryz.prog Z (Builtin.len_ #[32] 3 #[t12]) w fun t13 w =>
 run1 Tryz.prog Z (binOp .add 3 t10 t13) w fun t14 w =>
 ∃ J_15 : Nat → Value → Value → World → Prop, (∃ m, J_15 m t14 (.int .i64 0) w) ∧
 ∀ m_15, ∀ t16 : Value, ∀ t17 : Value, ∀ w : World, J_15 m_15 t16 t17 w → Env →
 run1 Tryz.prog Z (Instr.fieldAt 35 t1 10) w fun t18 w =>
 run1 Tryz.prog Z (Instr.loadAt 33 t18) w fun t19 w =>
 run1 Tryz.prog Z (Builtin.len_ #[33] 3 #[t19]) w fun t20 w =>
 run1 Tryz.prog Z (binOp .lss 3 t17 t20) w fun t21 w =>
 guardW (t21) true (fun k => k (t16) w) (fun t22 w =>
 guardW (t21) true (fun k => run1 Tryz.prog Z (binOp .leq 3 t22 (.int .i64 20000)) w k) (fun t23 w =>
 run1 Tryz.prog Z (pickV t21 t23 (.bool false)) w fun t24 w =>
 CondV t24 (
 run1 Tryz.prog Z (Instr.fieldAt 35 t1 10) w fun t25 w =>
 run1 Tryz.prog Z (Instr.loadAt 33 t25) w fun t26 w =>
 run1 Tryz.prog Z (Instr.indexAt 33 t26 t17) w fun t27 w =>
 run1 Tryz.prog Z (Instr.loadAt 35 t27) w fun t28 w =>
 CallV Tryz.prog Z 172 #[t28, t16] w fun t29 w =>
 run1 Tryz.prog Z (binOp .add 3 t17 (.int .i64 1)) w fun t30 w =>
 ∃ n_15, n_15 < m_15 ∧ J_15 n_15 t29 t30 w) (
 Q t16 w)) w) w
def f172.an : An := (.sq .leaf (.sq .leaf (.sq (.sq .leaf (.bl (.lp [1, 5] (.sq (.sq .leaf (.cn .leaf .leaf)) (.sq (.bl .leaf) .leaf))))) (.sq .leaf .leaf))))
theorem f172.calls {Z : List PanicEntry → World → Prop} {x0 x1 : Value} {w : World} {Q : Value → World → Prop} (h : f172.sh Z x0 x1 w Q) : CallV Tryz.prog Z 172 #[x0, x1] w Q :=
 cl Tryz.func172 f172.an [x0, x1] (by kernel_rfl) (by kernel_rfl) h

def f181.sh (Z : List PanicEntry → World → Prop) (x0 x1 : Value) (w : World) (Q : Value → World → Prop) : Prop :=
 runX Tryz.prog Z (nilChk x1) w fun t1 w =>
 run1 Tryz.prog Z (Instr.fieldAt 39 t1 1) w fun t2 w =>
 run1 Tryz.prog Z (Instr.loadAt 25 t2) w fun t3 w =>
 CallV Tryz.prog Z 182 #[x0, t3] w fun t4 w =>
 Q (Value.tuple #[]) w
def f181.an : An := .leaf
theorem f181.calls {Z : List PanicEntry → World → Prop} {x0 x1 : Value} {w : World} {Q : Value → World → Prop} (h : f181.sh Z x0 x1 w Q) : CallV Tryz.prog Z 181 #[x0, x1] w Q :=
 cl Tryz.func181 f181.an [x0, x1] (by kernel_rfl) (by kernel_rfl) h

def f182.sh (Z : List PanicEntry → World → Prop) (x0 x1 : Value) (w : World) (Q : Value → World → Prop) : Prop :=
 run1 Tryz.prog Z (Instr.box 25 x1) w fun t1 w =>
 run1 Tryz.prog Z (Instr.fieldAt 25 t1 0) w fun t2 w =>
 run1 Tryz.prog Z (Instr.loadAt 23 t2) w fun t3 w =>
 CallV Tryz.prog Z 33 #[x0, t3] w fun t4 w =>
 run1 Tryz.prog Z (Instr.fieldAt 25 t1 1) w fun t5 w =>
 run1 Tryz.prog Z (Instr.loadAt 23 t5) w fun t6 w =>
 CallV Tryz.prog Z 33 #[x0, t6] w fun t7 w =>
 Q (Value.tuple #[]) w
def f182.an : An := (.sq .leaf (.sq .leaf .leaf))
theorem f182.calls {Z : List PanicEntry → World → Prop} {x0 x1 : Value} {w : World} {Q : Value → World → Prop} (h : f182.sh Z x0 x1 w Q) : CallV Tryz.prog Z 182 #[x0, x1] w Q :=
 cl Tryz.func182 f182.an [x0, x1] (by kernel_rfl) (by kernel_rfl) h

def f183.sh (Z : List PanicEntry → World → Prop) (x0 x1 : Value) (w : World) (Q : Value → World → Prop) : Prop :=
 CallV Tryz.prog Z 184 #[x0] w fun t1 w =>
 runX Tryz.prog Z (nilChk x1) w fun t2 w =>
 run1 Tryz.prog Z (Instr.fieldAt 39 t2 1) w fun t3 w =>
 run0 Tryz.prog Z (Instr.storeAt 25 t3 t1) w fun w =>
 Q (Value.tuple #[]) w
def f183.an : An := .leaf
theorem f183.calls {Z : List PanicEntry → World → Prop} {x0 x1 : Value} {w : World} {Q : Value → World → Prop} (h : f183.sh Z x0 x1 w Q) : CallV Tryz.prog Z 183 #[x0, x1] w Q :=
 cl Tryz.func183 f183.an [x0, x1] (by kernel_rfl) (by kernel_rfl) h

def f184.sh (Z : List PanicEntry → World → Prop) (x0 : Value) (w : World) (Q : Value → World → Prop) : Prop :=
 run1 Tryz.prog Z (Instr.alloc 25 true (.tuple #[])) w fun t1 w =>
 CallV Tryz.prog Z 75 #[x0] w fun t2 w =>
 CallV Tryz.prog Z 75 #[x0] w fun t3 w =>
 run1 Tryz.prog Z (Instr.build 25 #[(0, t2), (1, t3)]) w fun t4 w =>
 run0 Tryz.prog Z (Instr.storeAt 25 t1 t4) w fun w =>
 ∃ r_5, (do loadVar 25 (← asAddr t1) : Sem Value).run Tryz.prog w = .ok r_5 w ∧
 Q r_5 w
def f184.an : An := (.sq .leaf (.sq .leaf .leaf))
theorem f184.calls {Z : List PanicEntry → World → Prop} {x0 : Value} {w : World} {Q : Value → World → Prop} (h : f184.sh Z x0 w Q) : CallV Tryz.prog Z 184 #[x0] w Q :=
 cl Tryz.func184 f184.an [x0] (by kernel_rfl) (by kernel_rfl) h

def f185.sh (Z : List PanicEntry → World → Prop) (x0 : Value) (w : World) (Q : Value → World → Prop) : Prop :=
 runX Tryz.prog Z (nilChk x0) w fun t1 w =>
 run1 Tryz.prog Z (Instr.fieldAt 39 t1 1) w fun t2 w =>
 run1 Tryz.prog Z (Instr.loadAt 25 t2) w fun t3 w =>
 CallV Tryz.prog Z 186 #[t3] w fun t4 w =>
 Q t4 w
def f185.an : An := (.sq .leaf (.sq .leaf .leaf))
theorem f185.calls {Z : List PanicEntry → World → Prop} {x0 : Value} {w : World} {Q : Value → World → Prop} (h : f185.sh Z x0 w Q) : CallV Tryz.prog Z 185 #[x0] w Q :=
 cl Tryz.func185 f185.an [x0] (by kernel_rfl) (by kernel_rfl) h

def f186.sh (Z : List PanicEntry → World → Prop) (x0 : Value) (w : World) (Q : Value → World → Prop) : Prop :=
 run1 Tryz.prog Z (Instr.box 25 x0) w fun t1 w =>
 run1 Tryz.prog Z (Instr.fieldAt 25 t1 0) w fun t2 w =>
 run1 Tryz.prog Z (Instr.loadAt 23 t2) w fun t3 w =>
 run1 Tryz.prog Z (binOp .gtr 23 t3 (.int .u32 0)) w fun t4 w =>
 guardW (t4) true (fun k => run1 Tryz.prog Z (Instr.fieldAt 25 t1 1) w k) (fun t5 w =>
 guardW (t4) true (fun k => run1 Tryz.prog Z (Instr.loadAt 23 t5) w k) (fun t6 w =>
 guardW (t4) true (fun k => run1 Tryz.prog Z (binOp .gtr 23 t6 (.int .u32 0)) w k) (fun t7 w =>
 run1 Tryz.prog Z (pickV t4 t7 (.bool false)) w fun t8 w =>
 Q t8 w) w) w) w
def f186.an : An := (.sq .leaf (.sq .leaf .leaf))
theorem f186.calls {Z : List PanicEntry → World → Prop} {x0 : Value} {w : World} {Q : Value → World → Prop} (h : f186.sh Z x0 w Q) : CallV Tryz.prog Z 186 #[x0] w Q :=
 cl Tryz.func186 f186.an [x0] (by kernel_rfl) (by kernel_rfl) h

def f187.sh (Z : List PanicEntry → World → Prop) (x0 x1 : Value) (w : World) (Q : Value → World → Prop) : Prop :=
 runX Tryz.prog Z (nilChk x1) w fun t1 w =>
 run1 Tryz.prog Z (Instr.fieldAt 39 t1 2) w fun t2 w =>
 run1 Tryz.prog Z (Instr.loadAt 25 t2) w fun t3 w =>
 CallV Tryz.prog Z 182 #[x0, t3] w fun t4 w =>
 Q (Value.tuple #[]) w
def f187.an : An := .leaf
theorem f187.calls {Z : List PanicEntry → World → Prop} {x0 x1 : Value} {w : World} {Q : Value → World → Prop} (h : f187.sh Z x0 x1 w Q) : CallV Tryz.prog Z 187 #[x0, x1] w Q :=
 cl Tryz.func187 f187.an [x0, x1] (by kernel_rfl) (by kernel_rfl) h

def f188.sh (Z : List PanicEntry → World → Prop) (x0 x1 : Value) (w : World) (Q : Value → World → Prop) : Prop :=
 CallV Tryz.prog Z 184 #[x0] w fun t1 w =>
 runX Tryz.prog Z (nilChk x1) w fun t2 w =>
 run1 Tryz.prog Z (Instr.fieldAt 39 t2 2) w fun t3 w =>
 run0 Tryz.prog Z (Instr.storeAt 25 t3 t1) w fun w =>
 Q (Value.tuple #[]) w
def f188.an : An := .leaf
theorem f188.calls {Z : List PanicEntry → World → Prop} {x0 x1 : Value} {w : World} {Q : Value → World → Prop} (h : f188.sh Z x0 x1 w Q) : CallV Tryz.prog Z 188 #[x0, x1] w Q :=
 cl Tryz.func188 f188.an [x0, x1] (by kernel_rfl) (by kernel_rfl) h

def f189.sh (Z : List PanicEntry → World → Prop) (x0 : Value) (w : World) (Q : Value → World → Prop) : Prop :=
 runX Tryz.prog Z (nilChk x0) w fun t1 w =>
 run1 Tryz.prog Z (Instr.fieldAt 39 t1 2) w fun t2 w =>
 run1 Tryz.prog Z (Instr.loadAt 25 t2) w fun t3 w =>
 CallV Tryz.prog Z 186 #[t3] w fun t4 w =>
 Q t4 w
def f189.an : An := (.sq .leaf (.sq .leaf .leaf))
theorem f189.calls {Z : List PanicEntry → World → Prop} {x0 : Value} {w : World} {Q : Value → World → Prop} (h : f189.sh Z x0 w Q) : CallV Tryz.prog Z 189 #[x0] w Q :=
 cl Tryz.func189 f189.an [x0] (by kernel_rfl) (by kernel_rfl) h

def f190.sh (Z : List PanicEntry → World → Prop) (x0 x1 : Value) (w : World) (Q : Value → World → Prop) : Prop :=
 runX Tryz.prog Z (nilChk x1) w fun t1 w =>
 run1 Tryz.prog Z (Instr.fieldAt 39 t1 3) w fun t2 w =>
 run1 Tryz.prog Z (Instr.loadAt 2 t2) w fun t3 w =>
 CallV Tryz.prog Z 116 #[x0, t3] w fun t4 w =>
 Q (Value.tuple #[]) w
def f190.an : An := .leaf
theorem f190.calls {Z : List PanicEntry → World → Prop} {x0 x1 : Value} {w : World} {Q : Value → World → Prop} (h : f190.sh Z x0 x1 w Q) : CallV Tryz.prog Z 190 #[x0, x1] w Q :=
 cl Tryz.func190 f190.an [x0, x1] (by kernel_rfl) (by kernel_rfl) h

def f191.sh (Z : List PanicEntry → World → Prop) (x0 x1 : Value) (w : World) (Q : Value → World → Prop) : Prop :=
 CallV Tryz.prog Z 118 #[x0] w fun t1 w =>
 runX Tryz.prog Z (nilChk x1) w fun t2 w =>
 run1 Tryz.prog Z (Instr.fieldAt 39 t2 3) w fun t3 w =>
 run0 Tryz.prog Z (Instr.storeAt 2 t3 t1) w fun w =>
 Q (Value.tuple #[]) w
def f191.an : An := .leaf
theorem f191.calls {Z : List PanicEntry → World → Prop} {x0 x1 : Value} {w : World} {Q : Value → World → Prop} (h : f191.sh Z x0 x1 w Q) : CallV Tryz.prog Z 191 #[x0, x1] w Q :=
 cl Tryz.func191 f191.an [x0, x1] (by kernel_rfl) (by kernel_rfl) h

def f192.sh (Z : List PanicEntry → World → Prop) (x0 : Value) (w : World) (Q : Value → World → Prop) : Prop :=
 runX Tryz.prog Z (nilChk x0) w fun t1 w =>
 run1 Tryz.prog Z (Instr.fieldAt 39 t1 3) w fun t2 w =>
 run1 Tryz.prog Z (Instr.loadAt 2 t2) w fun t3 w =>
 run1 Tryz.prog Z (binOp .geq 2 t3 (.int .i64 0)) w fun t4 w =>
 Q t4 w
def f192.an : An := (.sq .leaf (.sq .leaf .leaf))
theorem f192.calls {Z : List PanicEntry → World → Prop} {x0 : Value} {w : World} {Q : Value → World → Prop} (h : f192.sh Z x0 w Q) : CallV Tryz.prog Z 192 #[x0] w Q :=
 cl Tryz.func192 f192.an [x0] (by kernel_rfl) (by kernel_rfl) h

def f193.sh (Z : List PanicEntry → World → Prop) (x0 x1 : Value) (w : World) (Q : Value → World → Prop) : Prop :=
 CallV Tryz.prog Z 171 #[x0] w fun t1 w =>
 run1 Tryz.prog Z (Op.unary .not t1) w fun t2 w =>
 CondV t2 (
 Q (Value.tuple #[(.slice none 0 0), (.bool false)]) w) (
 runX Tryz.prog Z (nilChk x0) w fun t3 w =>
 run1 Tryz.prog Z (Instr.fieldAt 239 t3 1) w fun t4 w =>
 run1 Tryz.prog Z (Instr.loadAt 30 t4) w fun t5 w =>
 run1 Tryz.prog Z (Builtin.len_ #[30] 3 #[t5]) w fun t6 w =>
 run1 Tryz.prog Z (binOp .lss 3 t6 x1) w fun t7 w =>
 CondV t7 (
 runX Tryz.prog Z (nilChk x0) w fun t8 w =>
 run1 Tryz.prog Z (Instr.fieldAt 239 t8 2) w fun t9 w =>
 run0 Tryz.prog Z (Instr.storeAt 43 t9 (.int .i64 10)) w fun w =>
 Q (Value.tuple #[(.slice none 0 0), (.bool false)]) w) (
 runX Tryz.prog Z (nilChk x0) w fun t10 w =>
 run1 Tryz.prog Z (Instr.fieldAt 239 t10 1) w fun t11 w =>
 run1 Tryz.prog Z (Instr.loadAt 30 t11) w fun t12 w =>
 run1 Tryz.prog Z (Instr.sliceAt 30 t12 none (some x1) (some x1)) w fun t13 w =>
 Q (Value.tuple #[t13, (.bool true)]) w))
def f193.an : An := (.sq .leaf (.sq (.sq .leaf (.cn (.sq .leaf .leaf) .leaf)) (.sq (.sq .leaf (.cn (.sq .leaf (.sq .leaf .leaf)) .leaf)) (.sq .leaf .leaf))))
theorem f193.calls {Z : List PanicEntry → World → Prop} {x0 x1 : Value} {w : World} {Q : Value → World → Prop} (h : f193.sh Z x0 x1 w Q) : CallV Tryz.prog Z 193 #[x0, x1] w Q :=
 cl Tryz.func193 f193.an [x0, x1] (by kernel_rfl) (by kernel_rfl) h

def f194.sh (Z : List PanicEntry → World → Prop) (x0 : Value) (w : World) (Q : Value → World → Prop) : Prop :=
 run1 Tryz.prog Z (Instr.box 37 x0) w fun t1 w =>
 run1 Tryz.prog Z (Instr.loadAt 37 t1) w fun t2 w =>
 CallV Tryz.prog Z 196 #[t2] w fun t3 w =>
 run1 Tryz.prog Z (eqOp .neq 43 false true t3 (.int .i64 0)) w fun t4 w =>
 CondV t4 (
 Q (Value.tuple #[(.slice none 0 0), (.int .i64 40)]) w) (
 run1 Tryz.prog Z (Instr.build 88 #[]) w fun t5 w =>
 run1 Tryz.prog Z (Instr.box 88 t5) w fun t6 w =>
 run1 Tryz.prog Z (Instr.fieldAt 37 t1 0) w fun t7 w =>
 run1 Tryz.prog Z (Instr.fieldAt 27 t7 0) w fun t8 w =>
 run1 Tryz.prog Z (Instr.loadAt 23 t8) w fun t9 w =>
 CallV Tryz.prog Z 33 #[t6, t9] w fun t10 w =>
 run1 Tryz.prog Z (Instr.fieldAt 37 t1 0) w fun t11 w =>
 run1 Tryz.prog Z (Instr.fieldAt 27 t11 1) w fun t12 w =>
 run1 Tryz.prog Z (Instr.loadAt 23 t12) w fun t13 w =>
 CallV Tryz.prog Z 33 #[t6, t13] w fun t14 w =>
 run1 Tryz.prog Z (Instr.fieldAt 37 t1 1) w fun t15 w =>
 run1 Tryz.prog Z (Instr.fieldAt 29 t15 0) w fun t16 w =>
 run1 Tryz.prog Z (Instr.loadAt 22 t16) w fun t17 w =>
 CallV Tryz.prog Z 30 #[t6, t17] w fun t18 w =>
 run1 Tryz.prog Z (Instr.fieldAt 37 t1 1) w fun t19 w =>
 run1 Tryz.prog Z (Instr.fieldAt 29 t19 1) w fun t20 w =>
 run1 Tryz.prog Z (Instr.loadAt 23 t20) w fun t21 w =>
 CallV Tryz.prog Z 33 #[t6, t21] w fun t22 w =>
 run1 Tryz.prog Z (Instr.fieldAt 37 t1 1) w fun t23 w =>
 run1 Tryz.prog Z (Instr.fieldAt 29 t23 2) w fun t24 w =>
 run1 Tryz.prog Z (Instr.loadAt 2 t24) w fun t25 w =>
 CallV Tryz.prog Z 116 #[t6, t25] w fun t26 w =>
 run1 Tryz.prog Z (Instr.build 267 #[]) w fun t27 w =>
 run1 Tryz.prog Z (Instr.fieldAt 37 t1 2) w fun t28 w =>
 run1 Tryz.prog Z (Instr.loadAt 35 t28) w fun t29 w =>
 CallV Tryz.prog Z 217 #[t27, t6, t29] w fun t30 w =>
 CallV Tryz.prog Z 32 #[t6] w fun t31 w =>
 Q (Value.tuple #[t31, (.int .i64 0)]) w)
def f194.an : An := (.sq .leaf (.sq (.sq .leaf (.cn (.sq .leaf .leaf) .leaf)) (.sq .leaf (.sq .leaf (.sq .leaf (.sq .leaf (.sq .leaf (.sq .leaf (.sq .leaf (.sq .leaf .leaf))))))))))
theorem f194.calls {Z : List PanicEntry → World → Prop} {x0 : Value} {w : World} {Q : Value → World → Prop} (h : f194.sh Z x0 w Q) : CallV Tryz.prog Z 194 #[x0] w Q :=
 cl Tryz.func194 f194.an [x0] (by kernel_rfl) (by kernel_rfl) h

def f195.sh (Z : List PanicEntry → World → Prop) (x0 : Value) (w : World) (Q : Value → World → Prop) : Prop :=
 run1 Tryz.prog Z (Instr.alloc 37 true (.tuple #[])) w fun t1 w =>
 CallV Tryz.prog Z 74 #[x0] w fun t2 w =>
 run1 Tryz.prog Z (Instr.alloc 37 true (.tuple #[])) w fun t3 w =>
 CallV Tryz.prog Z 75 #[t2] w fun t4 w =>
 run1 Tryz.prog Z (Instr.fieldAt 37 t3 0) w fun t5 w =>
 run1 Tryz.prog Z (Instr.fieldAt 27 t5 0) w fun t6 w =>
 run0 Tryz.prog Z (Instr.storeAt 23 t6 t4) w fun w =>
 CallV Tryz.prog Z 75 #[t2] w fun t7 w =>
 run1 Tryz.prog Z (Instr.fieldAt 37 t3 0) w fun t8 w =>
 run1 Tryz.prog Z (Instr.fieldAt 27 t8 1) w fun t9 w =>
 run0 Tryz.prog Z (Instr.storeAt 23 t9 t7) w fun w =>
 CallV Tryz.prog Z 77 #[t2] w fun t10 w =>
 run1 Tryz.prog Z (Instr.fieldAt 37 t3 1) w fun t11 w =>
 run1 Tryz.prog Z (Instr.fieldAt 29 t11 0) w fun t12 w =>
 run0 Tryz.prog Z (Instr.storeAt 22 t12 t10) w fun w =>
 CallV Tryz.prog Z 75 #[t2] w fun t13 w =>
 run1 Tryz.prog Z (Instr.fieldAt 37 t3 1) w fun t14 w =>
 run1 Tryz.prog Z (Instr.fieldAt 29 t14 1) w fun t15 w =>
 run0 Tryz.prog Z (Instr.storeAt 23 t15 t13) w fun w =>
 CallV Tryz.prog Z 118 #[t2] w fun t16 w =>
 run1 Tryz.prog Z (Instr.fieldAt 37 t3 1) w fun t17 w =>
 run1 Tryz.prog Z (Instr.fieldAt 29 t17 2) w fun t18 w =>
 run0 Tryz.prog Z (Instr.storeAt 2 t18 t16) w fun w =>
 run1 Tryz.prog Z (Instr.build 267 #[]) w fun t19 w =>
 CallV Tryz.prog Z 218 #[t19, t2] w fun t20 w =>
 run1 Tryz.prog Z (Instr.fieldAt 37 t3 2) w fun t21 w =>
 run0 Tryz.prog Z (Instr.storeAt 35 t21 t20) w fun w =>
 CallV Tryz.prog Z 78 #[t2] w fun t22 w =>
 run1 Tryz.prog Z (eqOp .neq 43 false true t22 (.int .i64 0)) w fun t23 w =>
 guardW (t23) false (fun k => run1 Tryz.prog Z (Instr.loadAt 37 t3) w k) (fun t24 w =>
 guardW (t23) false (fun k => CallV Tryz.prog Z 196 #[t24] w k) (fun t25 w =>
 guardW (t23) false (fun k => run1 Tryz.prog Z (eqOp .neq 43 false true t25 (.int .i64 0)) w k) (fun t26 w =>
 run1 Tryz.prog Z (pickV t23 (.bool true) t26) w fun t27 w =>
 CondV t27 (
 run1 Tryz.prog Z (Instr.build 37 #[]) w fun t28 w =>
 run0 Tryz.prog Z (Instr.storeAt 37 t1 t28) w fun w =>
 ∃ r_29, (do loadVar 37 (← asAddr t1) : Sem Value).run Tryz.prog w = .ok r_29 w ∧
 Q (Value.tuple #[r_29, (.int .i64 40)]) w) (
 run1 Tryz.prog Z (Instr.loadAt 37 t3) w fun t30 w =>
 run0 Tryz.prog Z (Instr.storeAt 37 t1 t30) w fun w =>
 ∃ r_31, (do loadVar 37 (← asAddr t1) : Sem Value).run Tryz.prog w = .ok r_31 w ∧
 Q (Value.tuple #[r_31, (.int .i64 0)]) w)) w) w) w
def f195.an : An := (.sq .leaf (.sq .leaf (.sq .leaf (.sq .leaf (.sq .leaf (.sq .leaf (.sq .leaf (.sq .leaf (.sq .leaf (.sq (.sq .leaf (.cn (.sq .leaf .leaf) .leaf)) (.sq .leaf .leaf)))))))))))
theorem f195.calls {Z : List PanicEntry → World → Prop} {x0 : Value} {w : World} {Q : Value → World → Prop} (h : f195.sh Z x0 w Q) : CallV Tryz.prog Z 195 #[x0] w Q :=
 cl Tryz.func195 f195.an [x0] (by kernel_rfl) (by kernel_rfl) h

def f196.sh (Z : List PanicEntry → World → Prop) (x0 : Value) (w : World) (Q : Value → World → Prop) : Prop :=
 run1 Tryz.prog Z (Instr.box 37 x0) w fun t1 w =>
 run1 Tryz.prog Z (Instr.fieldAt 37 t1 0) w fun t2 w =>
 run1 Tryz.prog Z (Instr.loadAt 27 t2) w fun t3 w =>
 run1 Tryz.prog Z (Instr.alloc 27 true (.tuple #[])) w fun t4 w =>
 run0 Tryz.prog Z (Instr.storeAt 27 t4 t3) w fun w =>
 run1 Tryz.prog Z (Instr.fieldAt 27 t4 0) w fun t5 w =>
 run1 Tryz.prog Z (Instr.loadAt 23 t5) w fun t6 w =>
 run1 Tryz.prog Z (binOp .geq 23 t6 (.int .u32 1)) w fun t7 w =>
 guardW (t7) true (fun k => run1 Tryz.prog Z (Instr.fieldAt 27 t4 0) w k) (fun t8 w =>
 guardW (t7) true (fun k => run1 Tryz.prog Z (Instr.loadAt 23 t8) w k) (fun t9 w =>
 guardW (t7) true (fun k => run1 Tryz.prog Z (binOp .leq 23 t9 (.int .u32 2147483647)) w k) (fun t10 w =>
 run1 Tryz.prog Z (pickV t7 t10 (.bool false)) w fun t11 w =>
 guardW (t11) true (fun k => run1 Tryz.prog Z (Instr.fieldAt 27 t4 1) w k) (fun t12 w =>
 guardW (t11) true (fun k => run1 Tryz.prog Z (Instr.loadAt 23 t12) w k) (fun t13 w =>
 guardW (t11) true (fun k => run1 Tryz.prog Z (binOp .geq 23 t13 (.int .u32 1)) w k) (fun t14 w =>
 run1 Tryz.prog Z (pickV t11 t14 (.bool false)) w fun t15 w =>
 run1 Tryz.prog Z (Instr.loadAt 27 t4) w fun t16 w =>
 run1 Tryz.prog Z (Instr.build 27 #[]) w fun t17 w =>
 run1 Tryz.prog Z (eqOp .neq 27 false false t16 t17) w fun t18 w =>
 guardW (t18) true (fun k => k (t15) w) (fun t19 w =>
 guardW (t18) true (fun k => run1 Tryz.prog Z (Op.unary .not t19) w k) (fun t20 w =>
 run1 Tryz.prog Z (pickV t18 t20 (.bool false)) w fun t21 w =>
 CondV t21 (
 Q (.int .i64 40) w) (
 run1 Tryz.prog Z (Instr.fieldAt 37 t1 1) w fun t22 w =>
 run1 Tryz.prog Z (Instr.fieldAt 29 t22 0) w fun t23 w =>
 run1 Tryz.prog Z (Instr.loadAt 22 t23) w fun t24 w =>
 run1 Tryz.prog Z (binOp .lss 22 t24 (.int .i8 0)) w fun t25 w =>
 guardW (t25) false (fun k => run1 Tryz.prog Z (Instr.fieldAt 37 t1 1) w k) (fun t26 w =>
 guardW (t25) false (fun k => run1 Tryz.prog Z (Instr.fieldAt 29 t26 0) w k) (fun t27 w =>
 guardW (t25) false (fun k => run1 Tryz.prog Z (Instr.loadAt 22 t27) w k) (fun t28 w =>
 guardW (t25) false (fun k => run1 Tryz.prog Z (binOp .geq 22 t28 (.int .i8 7)) w k) (fun t29 w =>
 run1 Tryz.prog Z (pickV t25 (.bool true) t29) w fun t30 w =>
 guardW (t30) false (fun k => run1 Tryz.prog Z (Instr.fieldAt 37 t1 1) w k) (fun t31 w =>
 guardW (t30) false (fun k => run1 Tryz.prog Z (Instr.fieldAt 29 t31 2) w k) (fun t32 w =>
 guardW (t30) false (fun k => run1 Tryz.prog Z (Instr.loadAt 2 t32) w k) (fun t33 w =>
 guardW (t30) false (fun k => run1 Tryz.prog Z (binOp .lss 2 t33 (.int .i64 0)) w k) (fun t34 w =>
 run1 Tryz.prog Z (pickV t30 (.bool true) t34) w fun t35 w =>
 CondV t35 (
 Q (.int .i64 40) w) (
 run1 Tryz.prog Z (Instr.fieldAt 37 t1 2) w fun t36 w =>
 run1 Tryz.prog Z (Instr.fieldAt 35 t36 0) w fun t37 w =>
 run1 Tryz.prog Z (Instr.loadAt 22 t37) w fun t38 w =>
 run1 Tryz.prog Z (binOp .gtr 22 t38 (.int .i8 8)) w fun t39 w =>
 CondV t39 (
 Q (.int .i64 40) w) (
 run1 Tryz.prog Z (Instr.fieldAt 37 t1 2) w fun t40 w =>
 run1 Tryz.prog Z (Instr.loadAt 35 t40) w fun t41 w =>
 CallV Tryz.prog Z 219 #[t41] w fun t42 w =>
 Q t42 w))) w) w) w) w) w) w) w) w)) w) w) w) w) w) w) w) w
def f196.an : An := (.sq .leaf (.sq .leaf (.sq .leaf (.sq (.bl (.sq .leaf (.cn (.sq .leaf .leaf) (.sq .leaf (.cn (.sq .leaf .leaf) (.sq .leaf (.cn (.sq .leaf .leaf) .leaf))))))) (.sq .leaf .leaf)))))
theorem f196.calls {Z : List PanicEntry → World → Prop} {x0 : Value} {w : World} {Q : Value → World → Prop} (h : f196.sh Z x0 w Q) : CallV Tryz.prog Z 196 #[x0] w Q :=
 cl Tryz.func196 f196.an [x0] (by kernel_rfl) (by kernel_rfl) h

def f197.sh (Z : List PanicEntry → World → Prop) (x0 x1 : Value) (w : World) (Q : Value → World → Prop) : Prop :=
 run1 Tryz.prog Z (Instr.box 27 x0) w fun t1 w =>
 run1 Tryz.prog Z (Instr.box 27 x1) w fun t2 w =>
 Drawn w fun w =>
 Pure1 Tryz.prog (Instr.fieldAt 27 t1 0) fun t3 =>
 Read1 Tryz.prog (Instr.loadAt 23 t3) w fun t4 =>
 Pure1 Tryz.prog (Instr.fieldAt 27 t2 0) fun t5 =>
 Read1 Tryz.prog (Instr.loadAt 23 t5) w fun t6 =>
 Pure1 Tryz.prog (Instr.fieldAt 27 t1 1) fun t7 =>
 Read1 Tryz.prog (Instr.loadAt 23 t7) w fun t8 =>
 Pure1 Tryz.prog (Instr.fieldAt 27 t2 1) fun t9 =>
 Read1 Tryz.prog (Instr.loadAt 23 t9) w fun t10 =>
 CallV Tryz.prog Z 221 #[t4, t6] w fun t11 w =>
 Still Tryz.prog (nx (Instr.loadAt 23 t9)) t10 w <|
 Still Tryz.prog (nx (Instr.loadAt 23 t7)) t8 w <|
 CallV Tryz.prog Z 221 #[t8, t10] w fun t12 w =>
 run1 Tryz.prog Z (Instr.buildSlice 168 2 #[(0, t11), (1, t12)]) w fun t13 w =>
 CallV Tryz.prog Z 220 #[t13] w fun t14 w =>
 Q t14 w
def f197.an : An := (.sq .leaf (.sq (.dr (pl [0, 5, 8, 13, 20, 25, 28, 33, 18, 38, 42, 46, 48] .fin)) .leaf))
theorem f197.calls {Z : List PanicEntry → World → Prop} {x0 x1 : Value} {w : World} {Q : Value → World → Prop} (h : f197.sh Z x0 x1 w Q) : CallV Tryz.prog Z 197 #[x0, x1] w Q :=
 cl Tryz.func197 f197.an [x0, x1] (by kernel_rfl) (by kernel_rfl) h

def f198.sh (Z : List PanicEntry → World → Prop) (x0 x1 : Value) (w : World) (Q : Value → World → Prop) : Prop :=
 run1 Tryz.prog Z (convert 21 147 x1) w fun t1 w =>
 CallV Tryz.prog Z 83 #[x0, t1, (.int .i64 4)] w fun t2 w =>
 Q (Value.tuple #[]) w
def f198.an : An := .leaf
theorem f198.calls {Z : List PanicEntry → World → Prop} {x0 x1 : Value} {w : World} {Q : Value → World → Prop} (h : f198.sh Z x0 x1 w Q) : CallV Tryz.prog Z 198 #[x0, x1] w Q :=
 cl Tryz.func198 f198.an [x0, x1] (by kernel_rfl) (by kernel_rfl) h

def f199.sh (Z : List PanicEntry → World → Prop) (x0 x1 : Value) (w : World) (Q : Value → World → Prop) : Prop :=
 CallV Tryz.prog Z 222 #[x0] w fun t1 w =>
 CallV Tryz.prog Z 223 #[x0] w fun t2 w =>
 run1 Tryz.prog Z (convert 21 3 t2) w fun t3 w =>
 CallV Tryz.prog Z 171 #[x0] w fun t4 w =>
 run1 Tryz.prog Z (Op.unary .not t4) w fun t5 w =>
 CondV t5 (
 Q (.slice none 0 0) w) (
 run1 Tryz.prog Z (binOp .lss 3 t3 (.int .i64 0)) w fun t6 w =>
 guardW (t6) false (fun k => k (t3) w) (fun t7 w =>
 guardW (t6) false (fun k => k (x1) w) (fun t8 w =>
 guardW (t6) false (fun k => run1 Tryz.prog Z (binOp .gtr 3 t7 t8) w k) (fun t9 w =>
 run1 Tryz.prog Z (pickV t6 (.bool true) t9) w fun t10 w =>
 CondV t10 (
 CallV Tryz.prog Z 224 #[x0, t1, (.int .i64 11)] w fun t11 w =>
 Q (.slice none 0 0) w) (
 CallV Tryz.prog Z 193 #[x0, t3] w fun t12 w =>
 run1 Tryz.prog Z (Instr.extract t12 0) w fun t13 w =>
 run1 Tryz.prog Z (Instr.extract t12 1) w fun t14 w =>
 run1 Tryz.prog Z (Op.unary .not t14) w fun t15 w =>
 CondV t15 (
 CallV Tryz.prog Z 224 #[x0, t1, (.int .i64 10)] w fun t16 w =>
 Q (.slice none 0 0) w) (
 runX Tryz.prog Z (nilChk x0) w fun t17 w =>
 run1 Tryz.prog Z (Instr.fieldAt 239 t17 1) w fun t18 w =>
 run1 Tryz.prog Z (Instr.loadAt 30 t18) w fun t19 w =>
 run1 Tryz.prog Z (Instr.sliceAt 30 t19 (some t3) none none) w fun t20 w =>
 runX Tryz.prog Z (nilChk x0) w fun t21 w =>
 run1 Tryz.prog Z (Instr.fieldAt 239 t21 1) w fun t22 w =>
 run0 Tryz.prog Z (Instr.storeAt 30 t22 t20) w fun w =>
 Q t13 w))) w) w) w)
def f199.an : An := (.sq .leaf (.sq .leaf (.sq .leaf (.sq (.sq .leaf (.cn (.sq .leaf .leaf) .leaf)) (.sq (.sq .leaf (.cn (.sq .leaf (.sq .leaf .leaf)) .leaf)) (.sq .leaf (.sq (.sq .leaf (.cn (.sq .leaf (.sq .leaf .leaf)) .leaf)) (.sq .leaf (.sq .leaf .leaf)))))))))
theorem f199.calls {Z : List PanicEntry → World → Prop} {x0 x1 : Value} {w : World} {Q : Value → World → Prop} (h : f199.sh Z x0 x1 w Q) : CallV Tryz.prog Z 199 #[x0, x1] w Q :=
 cl Tryz.func199 f199.an [x0, x1] (by kernel_rfl) (by kernel_rfl) h

def f200.sh (Z : List PanicEntry → World → Prop) (x0 x1 : Value) (w : World) (Q : Value → World → Prop) : Prop :=
 run1 Tryz.prog Z (Instr.box 35 x0) w fun t1 w =>
 run1 Tryz.prog Z (Instr.box 35 x1) w fun t2 w =>
 run1 Tryz.prog Z (Instr.fieldAt 35 t1 0) w fun t3 w =>
 run1 Tryz.prog Z (Instr.loadAt 22 t3) w fun t4 w =>
 run1 Tryz.prog Z (Instr.fieldAt 35 t2 0) w fun t5 w =>
 run1 Tryz.prog Z (Instr.loadAt 22 t5) w fun t6 w =>
 run1 Tryz.prog Z (eqOp .eql 22 false false t4 t6) w fun t7 w =>
 guardW (t7) true (fun k => run1 Tryz.prog Z (Instr.fieldAt 35 t1 1) w k) (fun t8 w =>
 guardW (t7) true (fun k => run1 Tryz.prog Z (Instr.loadAt 9 t8) w k) (fun t9 w =>
 guardW (t7) true (fun k => run1 Tryz.prog Z (Instr.fieldAt 35 t2 1) w k) (fun t10 w =>
 guardW (t7) true (fun k => run1 Tryz.prog Z (Instr.loadAt 9 t10) w k) (fun t11 w =>
 guardW (t7) true (fun k => run1 Tryz.prog Z (eqOp .eql 9 false false t9 t11) w k) (fun t12 w =>
 run1 Tryz.prog Z (pickV t7 t12 (.bool false)) w fun t13 w =>
 guardW (t13) true (fun k => run1 Tryz.prog Z (Instr.fieldAt 35 t1 2) w k) (fun t14 w =>
 guardW (t13) true (fun k => run1 Tryz.prog Z (Instr.loadAt 30 t14) w k) (fun t15 w =>
 guardW (t13) true (fun k => run1 Tryz.prog Z (Instr.fieldAt 35 t2 2) w k) (fun t16 w =>
 guardW (t13) true (fun k => run1 Tryz.prog Z (Instr.loadAt 30 t16) w k) (fun t17 w =>
 guardW (t13) true (fun k => CallV Tryz.prog Z 225 #[t15, t17] w k) (fun t18 w =>
 run1 Tryz.prog Z (pickV t13 t18 (.bool false)) w fun t19 w =>
 guardW (t19) true (fun k => run1 Tryz.prog Z (Instr.fieldAt 35 t1 3) w k) (fun t20 w =>
 guardW (t19) true (fun k => run1 Tryz.prog Z (Instr.loadAt 31 t20) w k) (fun t21 w =>
 guardW (t19) true (fun k => run1 Tryz.prog Z (Instr.fieldAt 35 t2 3) w k) (fun t22 w =>
 guardW (t19) true (fun k => run1 Tryz.prog Z (Instr.loadAt 31 t22) w k) (fun t23 w =>
 guardW (t19) true (fun k => CallV Tryz.prog Z 226 #[t21, t23] w k) (fun t24 w =>
 run1 Tryz.prog Z (pickV t19 t24 (.bool false)) w fun t25 w =>
 guardW (t25) true (fun k => run1 Tryz.prog Z (Instr.fieldAt 35 t1 4) w k) (fun t26 w =>
 guardW (t25) true (fun k => run1 Tryz.prog Z (Instr.loadAt 21 t26) w k) (fun t27 w =>
 guardW (t25) true (fun k => run1 Tryz.prog Z (Instr.fieldAt 35 t2 4) w k) (fun t28 w =>
 guardW (t25) true (fun k => run1 Tryz.prog Z (Instr.loadAt 21 t28) w k) (fun t29 w =>
 guardW (t25) true (fun k => run1 Tryz.prog Z (eqOp .eql 21 false false t27 t29) w k) (fun t30 w =>
 run1 Tryz.prog Z (pickV t25 t30 (.bool false)) w fun t31 w =>
 guardW (t31) true (fun k => run1 Tryz.prog Z (Instr.fieldAt 35 t1 5) w k) (fun t32 w =>
 guardW (t31) true (fun k => run1 Tryz.prog Z (Instr.loadAt 4 t32) w k) (fun t33 w =>
 guardW (t31) true (fun k => run1 Tryz.prog Z (Instr.fieldAt 35 t2 5) w k) (fun t34 w =>
 guardW (t31) true (fun k => run1 Tryz.prog Z (Instr.loadAt 4 t34) w k) (fun t35 w =>
 guardW (t31) true (fun k => run1 Tryz.prog Z (eqOp .eql 4 false false t33 t35) w k) (fun t36 w =>
 run1 Tryz.prog Z (pickV t31 t36 (.bool false)) w fun t37 w =>
 guardW (t37) true (fun k => run1 Tryz.prog Z (Instr.fieldAt 35 t1 6) w k) (fun t38 w =>
 guardW (t37) true (fun k => run1 Tryz.prog Z (Instr.loadAt 4 t38) w k) (fun t39 w =>
 guardW (t37) true (fun k => run1 Tryz.prog Z (Instr.fieldAt 35 t2 6) w k) (fun t40 w =>
 guardW (t37) true (fun k => run1 Tryz.prog Z (Instr.loadAt 4 t40) w k) (fun t41 w =>
 guardW (t37) true (fun k => run1 Tryz.prog Z (eqOp .eql 4 false false t39 t41) w k) (fun t42 w =>
 run1 Tryz.prog Z (pickV t37 t42 (.bool false)) w fun t43 w =>
 guardW (t43) true (fun k => run1 Tryz.prog Z (Instr.fieldAt 35 t1 7) w k) (fun t44 w =>
 guardW (t43) true (fun k => run1 Tryz.prog Z (Instr.loadAt 2 t44) w k) (fun t45 w =>
 guardW (t43) true (fun k => run1 Tryz.prog Z (Instr.fieldAt 35 t2 7) w k) (fun t46 w =>
 guardW (t43) true (fun k => run1 Tryz.prog Z (Instr.loadAt 2 t46) w k) (fun t47 w =>
 guardW (t43) true (fun k => run1 Tryz.prog Z (eqOp .eql 2 false false t45 t47) w k) (fun t48 w =>
 run1 Tryz.prog Z (pickV t43 t48 (.bool false)) w fun t49 w =>
 guardW (t49) true (fun k => run1 Tryz.prog Z (Instr.fieldAt 35 t1 8) w k) (fun t50 w =>
 guardW (t49) true (fun k => run1 Tryz.prog Z (Instr.loadAt 21 t50) w k) (fun t51 w =>
 guardW (t49) true (fun k => run1 Tryz.prog Z (Instr.fieldAt 35 t2 8) w k) (fun t52 w =>
 guardW (t49) true (fun k => run1 Tryz.prog Z (Instr.loadAt 21 t52) w k) (fun t53 w =>
 guardW (t49) true (fun k => run1 Tryz.prog Z (eqOp .eql 21 false false t51 t53) w k) (fun t54 w =>
 run1 Tryz.prog Z (pickV t49 t54 (.bool false)) w fun t55 w =>
 guardW (t55) true (fun k => run1 Tryz.prog Z (Instr.fieldAt 35 t1 9) w k) (fun t56 w =>
 guardW (t55) true (fun k => run1 Tryz.prog Z (Instr.loadAt 32 t56) w k) (fun t57 w =>
 guardW (t55) true (fun k => run1 Tryz.prog Z (Instr.fieldAt 35 t2 9) w k) (fun t58 w =>
 guardW (t55) true (fun k => run1 Tryz.prog Z (Instr.loadAt 32 t58) w k) (fun t59 w =>
 guardW (t55) true (fun k => CallV Tryz.prog Z 227 #[t57, t59] w k) (fun t60 w =>
 run1 Tryz.prog Z (pickV t55 t60 (.bool false)) w fun t61 w =>
 guardW (t61) true (fun k => run1 Tryz.prog Z (Instr.fieldAt 35 t1 10) w k) (fun t62 w =>
 guardW (t61) true (fun k => run1 Tryz.prog Z (Instr.loadAt 33 t62) w k) (fun t63 w =>
 guardW (t61) true (fun k => run1 Tryz.prog Z (Instr.fieldAt 35 t2 10) w k) (fun t64 w =>
 guardW (t61) true (fun k => run1 Tryz.prog Z (Instr.loadAt 33 t64) w k) (fun t65 w =>
 guardW (t61) true (fun k => CallV Tryz.prog Z 228 #[t63, t65, (.func (.func 200) #[] #[])] w k) (fun t66 w =>
 run1 Tryz.prog Z (pickV t61 t66 (.bool false)) w fun t67 w =>
 Q t67 w) w) w) w) w) w) w) w) w) w) w) w) w) w) w) w) w) w) w) w) w) w) w) w) w) w) w) w) w) w) w) w) w) w) w) w) w) w) w) w) w) w) w) w) w) w) w) w) w) w) w
def f200.an : An := (.sq .leaf (.sq .leaf .leaf))
theorem f200.calls {Z : List PanicEntry → World → Prop} {x0 x1 : Value} {w : World} {Q : Value → World → Prop} (h : f200.sh Z x0 x1 w Q) : CallV Tryz.prog Z 200 #[x0, x1] w Q :=
 cl Tryz.func200 f200.an [x0, x1] (by kernel_rfl) (by kernel_rfl) h

def f201.sh (Z : List PanicEntry → World → Prop) (x0 x1 : Value) (w : World) (Q : Value → World → Prop) : Prop :=
 run1 Tryz.prog Z (Builtin.len_ #[31] 3 #[x0]) w fun t1 w =>
 run1 Tryz.prog Z (Builtin.len_ #[31] 3 #[x1]) w fun t2 w =>
 run1 Tryz.prog Z (eqOp .neq 3 false false t1 t2) w fun t3 w =>
 CondV t3 (
 Q (.bool false) w) (
 ∃ J_4 : Nat → Value → World → Prop, (∃ m, J_4 m (.int .i64 0) w) ∧
 ∀ m_4, ∀ t5 : Value, ∀ w : World, J_4 m_4 t5 w → Env →
 run1 Tryz.prog Z (Builtin.len_ #[31] 3 #[x0]) w fun t6 w =>
 run1 Tryz.prog Z (binOp .lss 3 t5 t6) w fun t7 w =>
 CondV t7 (
 Drawn w fun w =>
 Pure1 Tryz.prog (Instr.indexAt 31 x0 t5) fun t8 =>
 Read1 Tryz.prog (Instr.loadAt 178 t8) w fun t9 =>
 Pure1 Tryz.prog (Instr.indexAt 31 x1 t5) fun t10 =>
 Read1 Tryz.prog (Instr.loadAt 178 t10) w fun t11 =>
 Pure1 Tryz.prog (eqOp .neq 178 false false t9 t11) fun t12 =>
 CondV t12 (
 Q (.bool false) w) (
 run1 Tryz.prog Z (binOp .add 3 t5 (.int .i64 1)) w fun t13 w =>
 ∃ n_4, n_4 < m_4 ∧ J_4 n_4 t13 w)) (
 Q (.bool true) w))
def f201.an : An := (.sq .leaf (.sq (.sq .leaf (.cn (.sq .leaf .leaf) .leaf)) (.sq (.sq .leaf (.bl (.lp [5] (.sq (.sq .leaf (.cn .leaf .leaf)) (.sq (.bl (.sq (.dr (pl [0, 4, 8, 13, 16, 20, 24, 29, 32] .fin)) (.cn (.sq .leaf .leaf) .leaf))) .leaf))))) (.sq .leaf .leaf))))
theorem f201.calls {Z : List PanicEntry → World → Prop} {x0 x1 : Value} {w : World} {Q : Value → World → Prop} (h : f201.sh Z x0 x1 w Q) : CallV Tryz.prog Z 201 #[x0, x1] w Q :=
 cl Tryz.func201 f201.an [x0, x1] (by kernel_rfl) (by kernel_rfl) h

def f202.sh (Z : List PanicEntry → World → Prop) (x0 x1 : Value) (w : World) (Q : Value → World → Prop) : Prop :=
 run1 Tryz.prog Z (Builtin.len_ #[32] 3 #[x0]) w fun t1 w =>
 run1 Tryz.prog Z (Builtin.len_ #[32] 3 #[x1]) w fun t2 w =>
 run1 Tryz.prog Z (eqOp .neq 3 false false t1 t2) w fun t3 w =>
 CondV t3 (
 Q (.bool false) w) (
 ∃ J_4 : Nat → Value → World → Prop, (∃ m, J_4 m (.int .i64 0) w) ∧
 ∀ m_4, ∀ t5 : Value, ∀ w : World, J_4 m_4 t5 w → Env →
 run1 Tryz.prog Z (Builtin.len_ #[32] 3 #[x0]) w fun t6 w =>
 run1 Tryz.prog Z (binOp .lss 3 t5 t6) w fun t7 w =>
 CondV t7 (
 Drawn w fun w =>
 Pure1 Tryz.prog (Instr.indexAt 32 x0 t5) fun t8 =>
 Read1 Tryz.prog (Instr.loadAt 175 t8) w fun t9 =>
 Pure1 Tryz.prog (Instr.indexAt 32 x1 t5) fun t10 =>
 Read1 Tryz.prog (Instr.loadAt 175 t10) w fun t11 =>
 Pure1 Tryz.prog (eqOp .neq 175 false false t9 t11) fun t12 =>
 CondV t12 (
 Q (.bool false) w) (
 run1 Tryz.prog Z (binOp .add 3 t5 (.int .i64 1)) w fun t13 w =>
 ∃ n_4, n_4 < m_4 ∧ J_4 n_4 t13 w)) (
 Q (.bool true) w))
def f202.an : An := (.sq .leaf (.sq (.sq .leaf (.cn (.sq .leaf .leaf) .leaf)) (.sq (.sq .leaf (.bl (.lp [5] (.sq (.sq .leaf (.cn .leaf .leaf)) (.sq (.bl (.sq (.dr (pl [0, 4, 8, 13, 16, 20, 24, 29, 32] .fin)) (.cn (.sq .leaf .leaf) .leaf))) .leaf))))) (.sq .leaf .leaf))))
theorem f202.calls {Z : List PanicEntry → World → Prop} {x0 x1 : Value} {w : World} {Q : Value → World → Prop} (h : f202.sh Z x0 x1 w Q) : CallV Tryz.prog Z 202 #[x0, x1] w Q :=
 cl Tryz.func202 f202.an [x0, x1] (by kernel_rfl) (by kernel_rfl) h

def f203.sh (Z : List PanicEntry → World → Prop) (x0 : Value) (w : World) (Q : Value → World → Prop) : Prop :=
 run1 Tryz.prog Z (Instr.box 35 x0) w fun t1 w =>
 run1 Tryz.prog Z (Instr.fieldAt 35 t1 0) w fun t2 w =>
 run1 Tryz.prog Z (Instr.loadAt 22 t2) w fun t3 w =>
 CallV Tryz.prog Z 229 #[t3] w fun t4 w =>
 run1 Tryz.prog Z (eqOp .eql 9 false true t4 (.string { data := #[] })) w fun t5 w =>
 CondV t5 (
 Q (.bool false) w) (
 run1 Tryz.prog Z (Instr.fieldAt 35 t1 1) w fun t6 w =>
 run1 Tryz.prog Z (Instr.loadAt 9 t6) w fun t7 w =>
 run1 Tryz.prog Z (eqOp .neq 9 false true t7 (.string { data := #[] })) w fun t8 w =>
 guardW (t8) true (fun k => k (t4) w) (fun t9 w =>
 guardW (t8) true (fun k => CallV Tryz.prog Z 230 #[t9, (.int .u8 112)] w k) (fun t10 w =>
 guardW (t8) true (fun k => run1 Tryz.prog Z (Op.unary .not t10) w k) (fun t11 w =>
 run1 Tryz.prog Z (pickV t8 t11 (.bool false)) w fun t12 w =>
 guardW (t12) false (fun k => run1 Tryz.prog Z (Instr.fieldAt 35 t1 1) w k) (fun t13 w =>
 guardW (t12) false (fun k => run1 Tryz.prog Z (Instr.loadAt 9 t13) w k) (fun t14 w =>
 guardW (t12) false (fun k => run1 Tryz.prog Z (Builtin.len_ #[9] 3 #[t14]) w k) (fun t15 w =>
 guardW (t12) false (fun k => run1 Tryz.prog Z (binOp .gtr 3 t15 (.int .i64 64)) w k) (fun t16 w =>
 run1 Tryz.prog Z (pickV t12 (.bool true) t16) w fun t17 w =>
 CondV t17 (
 Q (.bool false) w) (
 run1 Tryz.prog Z (Instr.fieldAt 35 t1 2) w fun t18 w =>
 run1 Tryz.prog Z (Instr.loadAt 30 t18) w fun t19 w =>
 run1 Tryz.prog Z (Builtin.len_ #[30] 3 #[t19]) w fun t20 w =>
 run1 Tryz.prog Z (eqOp .neq 3 false true t20 (.int .i64 0)) w fun t21 w =>
 guardW (t21) true (fun k => k (t4) w) (fun t22 w =>
 guardW (t21) true (fun k => CallV Tryz.prog Z 230 #[t22, (.int .u8 100)] w k) (fun t23 w =>
 guardW (t21) true (fun k => run1 Tryz.prog Z (Op.unary .not t23) w k) (fun t24 w =>
 run1 Tryz.prog Z (pickV t21 t24 (.bool false)) w fun t25 w =>
 guardW (t25) false (fun k => run1 Tryz.prog Z (Instr.fieldAt 35 t1 2) w k) (fun t26 w =>
 guardW (t25) false (fun k => run1 Tryz.prog Z (Instr.loadAt 30 t26) w k) (fun t27 w =>
 guardW (t25) false (fun k => run1 Tryz.prog Z (Builtin.len_ #[30] 3 #[t27]) w k) (fun t28 w =>
 guardW (t25) false (fun k => run1 Tryz.prog Z (binOp .gtr 3 t28 (.int .i64 96)) w k) (fun t29 w =>
 run1 Tryz.prog Z (pickV t25 (.bool true) t29) w fun t30 w =>
 CondV t30 (
 Q (.bool false) w) (
 run1 Tryz.prog Z (Instr.fieldAt 35 t1 3) w fun t31 w =>
 run1 Tryz.prog Z (Instr.loadAt 31 t31) w fun t32 w =>
 run1 Tryz.prog Z (Builtin.len_ #[31] 3 #[t32]) w fun t33 w =>
 run1 Tryz.prog Z (eqOp .neq 3 false true t33 (.int .i64 0)) w fun t34 w =>
 guardW (t34) true (fun k => k (t4) w) (fun t35 w =>
 guardW (t34) true (fun k => CallV Tryz.prog Z 230 #[t35, (.int .u8 97)] w k) (fun t36 w =>
 guardW (t34) true (fun k => run1 Tryz.prog Z (Op.unary .not t36) w k) (fun t37 w =>
 run1 Tryz.prog Z (pickV t34 t37 (.bool false)) w fun t38 w =>
 guardW (t38) false (fun k => run1 Tryz.prog Z (Instr.fieldAt 35 t1 3) w k) (fun t39 w =>
 guardW (t38) false (fun k => run1 Tryz.prog Z (Instr.loadAt 31 t39) w k) (fun t40 w =>
 guardW (t38) false (fun k => CallV Tryz.prog Z 231 #[t40] w k) (fun t41 w =>
 guardW (t38) false (fun k => run1 Tryz.prog Z (Op.unary .not t41) w k) (fun t42 w =>
 run1 Tryz.prog Z (pickV t38 (.bool true) t42) w fun t43 w =>
 CondV t43 (
 Q (.bool false) w) (
 run1 Tryz.prog Z (Instr.fieldAt 35 t1 4) w fun t44 w =>
 run1 Tryz.prog Z (Instr.loadAt 21 t44) w fun t45 w =>
 run1 Tryz.prog Z (eqOp .neq 21 false true t45 (.int .i32 0)) w fun t46 w =>
 guardW (t46) true (fun k => k (t4) w) (fun t47 w =>
 guardW (t46) true (fun k => CallV Tryz.prog Z 230 #[t47, (.int .u8 118)] w k) (fun t48 w =>
 guardW (t46) true (fun k => run1 Tryz.prog Z (Op.unary .not t48) w k) (fun t49 w =>
 run1 Tryz.prog Z (pickV t46 t49 (.bool false)) w fun t50 w =>
 CondV t50 (
 Q (.bool false) w) (
 run1 Tryz.prog Z (Instr.fieldAt 35 t1 5) w fun t51 w =>
 run1 Tryz.prog Z (Instr.loadAt 4 t51) w fun t52 w =>
 guardW (t52) false (fun k => run1 Tryz.prog Z (Instr.fieldAt 35 t1 6) w k) (fun t53 w =>
 guardW (t52) false (fun k => run1 Tryz.prog Z (Instr.loadAt 4 t53) w k) (fun t54 w =>
 run1 Tryz.prog Z (pickV t52 (.bool true) t54) w fun t55 w =>
 guardW (t55) true (fun k => k (t4) w) (fun t56 w =>
 guardW (t55) true (fun k => CallV Tryz.prog Z 230 #[t56, (.int .u8 102)] w k) (fun t57 w =>
 guardW (t55) true (fun k => run1 Tryz.prog Z (Op.unary .not t57) w k) (fun t58 w =>
 run1 Tryz.prog Z (pickV t55 t58 (.bool false)) w fun t59 w =>
 CondV t59 (
 Q (.bool false) w) (
 run1 Tryz.prog Z (Instr.fieldAt 35 t1 7) w fun t60 w =>
 run1 Tryz.prog Z (Instr.loadAt 2 t60) w fun t61 w =>
 run1 Tryz.prog Z (eqOp .neq 2 false true t61 (.int .i64 0)) w fun t62 w =>
 guardW (t62) true (fun k => k (t4) w) (fun t63 w =>
 guardW (t62) true (fun k => CallV Tryz.prog Z 230 #[t63, (.int .u8 115)] w k) (fun t64 w =>
 guardW (t62) true (fun k => run1 Tryz.prog Z (Op.unary .not t64) w k) (fun t65 w =>
 run1 Tryz.prog Z (pickV t62 t65 (.bool false)) w fun t66 w =>
 guardW (t66) false (fun k => run1 Tryz.prog Z (Instr.fieldAt 35 t1 7) w k) (fun t67 w =>
 guardW (t66) false (fun k => run1 Tryz.prog Z (Instr.loadAt 2 t67) w k) (fun t68 w =>
 guardW (t66) false (fun k => run1 Tryz.prog Z (binOp .lss 2 t68 (.int .i64 0)) w k) (fun t69 w =>
 run1 Tryz.prog Z (pickV t66 (.bool true) t69) w fun t70 w =>
 guardW (t70) false (fun k => run1 Tryz.prog Z (Instr.fieldAt 35 t1 0) w k) (fun t71 w =>
 guardW (t70) false (fun k => run1 Tryz.prog Z (Instr.loadAt 22 t71) w k) (fun t72 w =>
 guardW (t70) false (fun k => run1 Tryz.prog Z (eqOp .eql 22 false true t72 (.int .i8 8)) w k) (fun t73 w =>
 guardW (t70) false (fun k => k (t73) w) (fun t74 w =>
 guardW (t74) true (fun k => run1 Tryz.prog Z (Instr.fieldAt 35 t1 7) w k) (fun t75 w =>
 guardW (t74) true (fun k => run1 Tryz.prog Z (Instr.loadAt 2 t75) w k) (fun t76 w =>
 guardW (t74) true (fun k => run1 Tryz.prog Z (binOp .lss 2 t76 (.int .i64 1)) w k) (fun t77 w =>
 guardW (t70) false (fun k => run1 Tryz.prog Z (pickV t74 t77 (.bool false)) w k) (fun t78 w =>
 run1 Tryz.prog Z (pickV t70 (.bool true) t78) w fun t79 w =>
 CondV t79 (
 Q (.bool false) w) (
 CallV Tryz.prog Z 230 #[t4, (.int .u8 116)] w fun t80 w =>
 guardW (t80) true (fun k => run1 Tryz.prog Z (Instr.fieldAt 35 t1 8) w k) (fun t81 w =>
 guardW (t80) true (fun k => run1 Tryz.prog Z (Instr.loadAt 21 t81) w k) (fun t82 w =>
 guardW (t80) true (fun k => run1 Tryz.prog Z (binOp .lss 21 t82 (.int .i32 1)) w k) (fun t83 w =>
 guardW (t80) true (fun k => k (t83) w) (fun t84 w =>
 guardW (t84) false (fun k => run1 Tryz.prog Z (Instr.fieldAt 35 t1 8) w k) (fun t85 w =>
 guardW (t84) false (fun k => run1 Tryz.prog Z (Instr.loadAt 21 t85) w k) (fun t86 w =>
 guardW (t84) false (fun k => run1 Tryz.prog Z (binOp .gtr 21 t86 (.int .i32 1000)) w k) (fun t87 w =>
 guardW (t80) true (fun k => run1 Tryz.prog Z (pickV t84 (.bool true) t87) w k) (fun t88 w =>
 run1 Tryz.prog Z (pickV t80 t88 (.bool false)) w fun t89 w =>
 guardW (t89) false (fun k => k (t4) w) (fun t90 w =>
 guardW (t89) false (fun k => CallV Tryz.prog Z 230 #[t90, (.int .u8 116)] w k) (fun t91 w =>
 guardW (t89) false (fun k => run1 Tryz.prog Z (Op.unary .not t91) w k) (fun t92 w =>
 guardW (t89) false (fun k => k (t92) w) (fun t93 w =>
 guardW (t93) true (fun k => run1 Tryz.prog Z (Instr.fieldAt 35 t1 8) w k) (fun t94 w =>
 guardW (t93) true (fun k => run1 Tryz.prog Z (Instr.loadAt 21 t94) w k) (fun t95 w =>
 guardW (t93) true (fun k => run1 Tryz.prog Z (eqOp .neq 21 false true t95 (.int .i32 0)) w k) (fun t96 w =>
 guardW (t89) false (fun k => run1 Tryz.prog Z (pickV t93 t96 (.bool false)) w k) (fun t97 w =>
 run1 Tryz.prog Z (pickV t89 (.bool true) t97) w fun t98 w =>
 CondV t98 (
 Q (.bool false) w) (
 run1 Tryz.prog Z (Instr.fieldAt 35 t1 9) w fun t99 w =>
 run1 Tryz.prog Z (Instr.loadAt 32 t99) w fun t100 w =>
 run1 Tryz.prog Z (Builtin.len_ #[32] 3 #[t100]) w fun t101 w =>
 run1 Tryz.prog Z (eqOp .neq 3 false true t101 (.int .i64 0)) w fun t102 w =>
 guardW (t102) true (fun k => k (t4) w) (fun t103 w =>
 guardW (t102) true (fun k => CallV Tryz.prog Z 230 #[t103, (.int .u8 119)] w k) (fun t104 w =>
 guardW (t102) true (fun k => run1 Tryz.prog Z (Op.unary .not t104) w k) (fun t105 w =>
 run1 Tryz.prog Z (pickV t102 t105 (.bool false)) w fun t106 w =>
 guardW (t106) false (fun k => run1 Tryz.prog Z (Instr.fieldAt 35 t1 9) w k) (fun t107 w =>
 guardW (t106) false (fun k => run1 Tryz.prog Z (Instr.loadAt 32 t107) w k) (fun t108 w =>
 guardW (t106) false (fun k => CallV Tryz.prog Z 232 #[t108] w k) (fun t109 w =>
 guardW (t106) false (fun k => run1 Tryz.prog Z (Op.unary .not t109) w k) (fun t110 w =>
 run1 Tryz.prog Z (pickV t106 (.bool true) t110) w fun t111 w =>
 CondV t111 (
 Q (.bool false) w) (
 CallV Tryz.prog Z 230 #[t4, (.int .u8 111)] w fun t112 w =>
 CondV t112 (
 run1 Tryz.prog Z (Instr.fieldAt 35 t1 10) w fun t113 w =>
 run1 Tryz.prog Z (Instr.loadAt 33 t113) w fun t114 w =>
 run1 Tryz.prog Z (Builtin.len_ #[33] 3 #[t114]) w fun t115 w =>
 run1 Tryz.prog Z (binOp .geq 3 t115 (.int .i64 1)) w fun t116 w =>
 guardW (t116) true (fun k => run1 Tryz.prog Z (Instr.fieldAt 35 t1 10) w k) (fun t117 w =>
 guardW (t116) true (fun k => run1 Tryz.prog Z (Instr.loadAt 33 t117) w k) (fun t118 w =>
 guardW (t116) true (fun k => run1 Tryz.prog Z (Builtin.len_ #[33] 3 #[t118]) w k) (fun t119 w =>
 guardW (t116) true (fun k => run1 Tryz.prog Z (binOp .leq 3 t119 (.int .i64 8)) w k) (fun t120 w =>
 run1 Tryz.prog Z (pickV t116 t120 (.bool false)) w fun t121 w =>
 Q t121 w) w) w) w) w) (
 run1 Tryz.prog Z (Instr.fieldAt 35 t1 10) w fun t122 w =>
 run1 Tryz.prog Z (Instr.loadAt 33 t122) w fun t123 w =>
 run1 Tryz.prog Z (Builtin.len_ #[33] 3 #[t123]) w fun t124 w =>
 run1 Tryz.prog Z (eqOp .eql 3 false true t124 (.int .i64 0)) w fun t125 w =>
 Q t125 w))) w) w) w) w) w) w) w)) w) w) w) w) w) w) w) w) w) w) w) w) w) w) w) w)) w) w) w) w) w) w) w) w) w) w) w) w) w) w)) w) w) w) w) w)) w) w) w)) w) w) w) w) w) w) w)) w) w) w) w) w) w) w)) w) w) w) w) w) w) w)
def f203.an : An := (.sq .leaf (.sq .leaf (.sq (.sq .leaf (.cn (.sq .leaf .leaf) .leaf)) (.sq (.sq .leaf (.cn (.sq .leaf .leaf) .leaf)) (.sq (.sq .leaf (.cn (.sq .leaf .leaf) .leaf)) (.sq (.sq .leaf (.cn (.sq .leaf .leaf) .leaf)) (.sq (.sq .leaf (.cn (.sq .leaf .leaf) .leaf)) (.sq (.sq .leaf (.cn (.sq .leaf .leaf) .leaf)) (.sq (.sq .leaf (.cn (.sq .leaf .leaf) .leaf)) (.sq (.sq .leaf (.cn (.sq .leaf .leaf) .leaf)) (.sq (.sq .leaf (.cn (.sq .leaf .leaf) .leaf)) (.sq (.sq .leaf (.cn (.sq .leaf .leaf) .leaf)) (.sq .leaf .leaf)))))))))))))
theorem f203.calls {Z : List PanicEntry → World → Prop} {x0 : Value} {w : World} {Q : Value → World → Prop} (h : f203.sh Z x0 w Q) : CallV Tryz.prog Z 203 #[x0] w Q :=
 cl Tryz.func203 f203.an [x0] (by kernel_rfl) (by kernel_rfl) h

def f217.sh (Z : List PanicEntry → World → Prop) (x0 x1 x2 : Value) (w : World) (Q : Value → World → Prop) : Prop :=
 run1 Tryz.prog Z (Instr.box 267 x0) w fun t1 w =>
 run1 Tryz.prog Z (Instr.box 35 x2) w fun t2 w =>
 run1 Tryz.prog Z (Instr.fieldAt 35 t2 0) w fun t3 w =>
 run1 Tryz.prog Z (Instr.loadAt 22 t3) w fun t4 w =>
 CallV Tryz.prog Z 30 #[x1, t4] w fun t5 w =>
 run1 Tryz.prog Z (Instr.loadAt 267 t1) w fun t6 w =>
 run1 Tryz.prog Z (Instr.fieldAt 35 t2 0) w fun t7 w =>
 run1 Tryz.prog Z (Instr.loadAt 22 t7) w fun t8 w =>
 CallV Tryz.prog Z 239 #[t6, t8] w fun t9 w =>
 ∀ j_10 : World → Prop, (∀ w : World, (Env →
 ∀ j_11 : World → Prop, (∀ w : World, (Env →
 ∀ j_12 : World → Prop, (∀ w : World, (Env →
 ∀ j_13 : World → Prop, (∀ w : World, (Env →
 ∀ j_14 : World → Prop, (∀ w : World, (Env →
 ∀ j_15 : World → Prop, (∀ w : World, (Env →
 ∀ j_16 : World → Prop, (∀ w : World, (Env →
 ∀ j_17 : World → Prop, (∀ w : World, (Env →
 run1 Tryz.prog Z (binOp .and 155 t9 (.int .u64 256)) w fun t18 w =>
 run1 Tryz.prog Z (eqOp .neq 155 false true t18 (.int .u64 0)) w fun t19 w =>
 CondV t19 (
 run1 Tryz.prog Z (Instr.fieldAt 35 t2 10) w fun t20 w =>
 run1 Tryz.prog Z (Instr.loadAt 33 t20) w fun t21 w =>
 run1 Tryz.prog Z (Instr.build 267 #[(0, (.bool true))]) w fun t22 w =>
 run1 Tryz.prog Z (Instr.makeFunc (.func 217) #[t22] #[]) w fun t23 w =>
 CallV Tryz.prog Z 245 #[x1, t21, t23] w fun t24 w =>
 Q (Value.tuple #[]) w) (
 Q (Value.tuple #[]) w)) →
 j_17 w) →
 run1 Tryz.prog Z (binOp .and 155 t9 (.int .u64 128)) w fun t25 w =>
 run1 Tryz.prog Z (eqOp .neq 155 false true t25 (.int .u64 0)) w fun t26 w =>
 CondV t26 (
 run1 Tryz.prog Z (Instr.fieldAt 35 t2 9) w fun t27 w =>
 run1 Tryz.prog Z (Instr.loadAt 32 t27) w fun t28 w =>
 CallV Tryz.prog Z 243 #[x1, t28, (.func (.func 244) #[] #[])] w fun t29 w =>
 j_17 w) (
 j_17 w)) →
 j_16 w) →
 run1 Tryz.prog Z (binOp .and 155 t9 (.int .u64 64)) w fun t30 w =>
 run1 Tryz.prog Z (eqOp .neq 155 false true t30 (.int .u64 0)) w fun t31 w =>
 CondV t31 (
 run1 Tryz.prog Z (Instr.fieldAt 35 t2 8) w fun t32 w =>
 run1 Tryz.prog Z (Instr.loadAt 21 t32) w fun t33 w =>
 CallV Tryz.prog Z 198 #[x1, t33] w fun t34 w =>
 j_16 w) (
 j_16 w)) →
 j_15 w) →
 run1 Tryz.prog Z (binOp .and 155 t9 (.int .u64 32)) w fun t35 w =>
 run1 Tryz.prog Z (eqOp .neq 155 false true t35 (.int .u64 0)) w fun t36 w =>
 CondV t36 (
 run1 Tryz.prog Z (Instr.fieldAt 35 t2 7) w fun t37 w =>
 run1 Tryz.prog Z (Instr.loadAt 2 t37) w fun t38 w =>
 CallV Tryz.prog Z 116 #[x1, t38] w fun t39 w =>
 j_15 w) (
 j_15 w)) →
 j_14 w) →
 run1 Tryz.prog Z (binOp .and 155 t9 (.int .u64 16)) w fun t40 w =>
 run1 Tryz.prog Z (eqOp .neq 155 false true t40 (.int .u64 0)) w fun t41 w =>
 CondV t41 (
 run1 Tryz.prog Z (Instr.fieldAt 35 t2 5) w fun t42 w =>
 run1 Tryz.prog Z (Instr.loadAt 4 t42) w fun t43 w =>
 CallV Tryz.prog Z 102 #[x1, t43] w fun t44 w =>
 run1 Tryz.prog Z (Instr.fieldAt 35 t2 6) w fun t45 w =>
 run1 Tryz.prog Z (Instr.loadAt 4 t45) w fun t46 w =>
 CallV Tryz.prog Z 102 #[x1, t46] w fun t47 w =>
 j_14 w) (
 j_14 w)) →
 j_13 w) →
 run1 Tryz.prog Z (binOp .and 155 t9 (.int .u64 8)) w fun t48 w =>
 run1 Tryz.prog Z (eqOp .neq 155 false true t48 (.int .u64 0)) w fun t49 w =>
 CondV t49 (
 run1 Tryz.prog Z (Instr.fieldAt 35 t2 4) w fun t50 w =>
 run1 Tryz.prog Z (Instr.loadAt 21 t50) w fun t51 w =>
 CallV Tryz.prog Z 198 #[x1, t51] w fun t52 w =>
 j_13 w) (
 j_13 w)) →
 j_12 w) →
 run1 Tryz.prog Z (binOp .and 155 t9 (.int .u64 4)) w fun t53 w =>
 run1 Tryz.prog Z (eqOp .neq 155 false true t53 (.int .u64 0)) w fun t54 w =>
 CondV t54 (
 run1 Tryz.prog Z (Instr.fieldAt 35 t2 3) w fun t55 w =>
 run1 Tryz.prog Z (Instr.loadAt 31 t55) w fun t56 w =>
 CallV Tryz.prog Z 241 #[x1, t56, (.func (.func 242) #[] #[])] w fun t57 w =>
 j_12 w) (
 j_12 w)) →
 j_11 w) →
 run1 Tryz.prog Z (binOp .and 155 t9 (.int .u64 2)) w fun t58 w =>
 run1 Tryz.prog Z (eqOp .neq 155 false true t58 (.int .u64 0)) w fun t59 w =>
 CondV t59 (
 run1 Tryz.prog Z (Instr.fieldAt 35 t2 2) w fun t60 w =>
 run1 Tryz.prog Z (Instr.loadAt 30 t60) w fun t61 w =>
 CallV Tryz.prog Z 111 #[x1, t61] w fun t62 w =>
 j_11 w) (
 j_11 w)) →
 j_10 w) →
 run1 Tryz.prog Z (binOp .and 155 t9 (.int .u64 1)) w fun t63 w =>
 run1 Tryz.prog Z (eqOp .neq 155 false true t63 (.int .u64 0)) w fun t64 w =>
 CondV t64 (
 run1 Tryz.prog Z (Instr.fieldAt 35 t2 1) w fun t65 w =>
 run1 Tryz.prog Z (Instr.loadAt 9 t65) w fun t66 w =>
 CallV Tryz.prog Z 240 #[x1, t66] w fun t67 w =>
 j_10 w) (
 j_10 w)
def f217.an : An := (.sq .leaf (.sq .leaf (.sq .leaf (.sj [] (.sq .leaf (.cn .leaf .leaf)) (.sj [] (.sq .leaf (.cn .leaf .leaf)) (.sj [] (.sq .leaf (.cn .leaf .leaf)) (.sj [] (.sq .leaf (.cn .leaf .leaf)) (.sj [] (.sq .leaf (.cn (.sq .leaf .leaf) .leaf)) (.sj [] (.sq .leaf (.cn .leaf .leaf)) (.sj [] (.sq .leaf (.cn .leaf .leaf)) (.sj [] (.sq .leaf (.cn .leaf .leaf)) (.sq .leaf (.cn .leaf .leaf)))))))))))))
theorem f217.calls {Z : List PanicEntry → World → Prop} {x0 x1 x2 : Value} {w : World} {Q : Value → World → Prop} (h : f217.sh Z x0 x1 x2 w Q) : CallV Tryz.prog Z 217 #[x0, x1, x2] w Q :=
 cl Tryz.func217 f217.an [x0, x1, x2] (by kernel_rfl) (by kernel_rfl) h

def f218.sh (Z : List PanicEntry → World → Prop) (x0 x1 : Value) (w : World) (Q : Value → World → Prop) : Prop :=
 run1 Tryz.prog Z (Instr.box 267 x0) w fun t1 w =>
 run1 Tryz.prog Z (Instr.alloc 35 true (.tuple #[])) w fun t2 w =>
 CallV Tryz.prog Z 77 #[x1] w fun t3 w =>
 run1 Tryz.prog Z (Instr.build 35 #[(0, t3)]) w fun t4 w =>
 run1 Tryz.prog Z (Instr.alloc 35 true (.tuple #[])) w fun t5 w =>
 run0 Tryz.prog Z (Instr.storeAt 35 t5 t4) w fun w =>
 run1 Tryz.prog Z (Instr.fieldAt 35 t5 0) w fun t6 w =>
 run1 Tryz.prog Z (Instr.loadAt 22 t6) w fun t7 w =>
 CallV Tryz.prog Z 246 #[t7] w fun t8 w =>
 run1 Tryz.prog Z (Op.unary .not t8) w fun t9 w =>
 guardW (t9) false (fun k => run1 Tryz.prog Z (Instr.fieldAt 267 t1 0) w k) (fun t10 w =>
 guardW (t9) false (fun k => run1 Tryz.prog Z (Instr.loadAt 4 t10) w k) (fun t11 w =>
 guardW (t9) false (fun k => k (t11) w) (fun t12 w =>
 guardW (t12) true (fun k => run1 Tryz.prog Z (Instr.fieldAt 35 t5 0) w k) (fun t13 w =>
 guardW (t12) true (fun k => run1 Tryz.prog Z (Instr.loadAt 22 t13) w k) (fun t14 w =>
 guardW (t12) true (fun k => run1 Tryz.prog Z (binOp .gtr 22 t14 (.int .i8 5)) w k) (fun t15 w =>
 guardW (t9) false (fun k => run1 Tryz.prog Z (pickV t12 t15 (.bool false)) w k) (fun t16 w =>
 run1 Tryz.prog Z (pickV t9 (.bool true) t16) w fun t17 w =>
 CondV t17 (
 CallV Tryz.prog Z 247 #[x1, (.int .i64 40)] w fun t18 w =>
 run1 Tryz.prog Z (Instr.build 35 #[]) w fun t19 w =>
 run0 Tryz.prog Z (Instr.storeAt 35 t2 t19) w fun w =>
 ∃ r_20, (do loadVar 35 (← asAddr t2) : Sem Value).run Tryz.prog w = .ok r_20 w ∧
 Q r_20 w) (
 run1 Tryz.prog Z (Instr.loadAt 267 t1) w fun t21 w =>
 run1 Tryz.prog Z (Instr.fieldAt 35 t5 0) w fun t22 w =>
 run1 Tryz.prog Z (Instr.loadAt 22 t22) w fun t23 w =>
 CallV Tryz.prog Z 239 #[t21, t23] w fun t24 w =>
 ∀ j_25 : World → Prop, (∀ w : World, (Env →
 ∀ j_26 : World → Prop, (∀ w : World, (Env →
 ∀ j_27 : World → Prop, (∀ w : World, (Env →
 ∀ j_28 : World → Prop, (∀ w : World, (Env →
 ∀ j_29 : World → Prop, (∀ w : World, (Env →
 ∀ j_30 : World → Prop, (∀ w : World, (Env →
 ∀ j_31 : World → Prop, (∀ w : World, (Env →
 ∀ j_32 : World → Prop, (∀ w : World, (Env →
 ∀ j_33 : World → Prop, (∀ w : World, (Env →
 run1 Tryz.prog Z (Instr.loadAt 35 t5) w fun t34 w =>
 run0 Tryz.prog Z (Instr.storeAt 35 t2 t34) w fun w =>
 ∃ r_35, (do loadVar 35 (← asAddr t2) : Sem Value).run Tryz.prog w = .ok r_35 w ∧
 Q r_35 w) →
 j_33 w) →
 run1 Tryz.prog Z (binOp .and 155 t24 (.int .u64 256)) w fun t36 w =>
 run1 Tryz.prog Z (eqOp .neq 155 false true t36 (.int .u64 0)) w fun t37 w =>
 CondV t37 (
 run1 Tryz.prog Z (Instr.build 267 #[(0, (.bool true))]) w fun t38 w =>
 run1 Tryz.prog Z (Instr.makeFunc (.func 218) #[t38] #[]) w fun t39 w =>
 CallV Tryz.prog Z 253 #[x1, (.int .i64 8), t39] w fun t40 w =>
 run1 Tryz.prog Z (Instr.fieldAt 35 t5 10) w fun t41 w =>
 run0 Tryz.prog Z (Instr.storeAt 33 t41 t40) w fun w =>
 j_33 w) (
 j_33 w)) →
 j_32 w) →
 run1 Tryz.prog Z (binOp .and 155 t24 (.int .u64 128)) w fun t42 w =>
 run1 Tryz.prog Z (eqOp .neq 155 false true t42 (.int .u64 0)) w fun t43 w =>
 CondV t43 (
 CallV Tryz.prog Z 251 #[x1, (.int .i64 4), (.func (.func 252) #[] #[])] w fun t44 w =>
 run1 Tryz.prog Z (Instr.fieldAt 35 t5 9) w fun t45 w =>
 run0 Tryz.prog Z (Instr.storeAt 32 t45 t44) w fun w =>
 j_32 w) (
 j_32 w)) →
 j_31 w) →
 run1 Tryz.prog Z (binOp .and 155 t24 (.int .u64 64)) w fun t46 w =>
 run1 Tryz.prog Z (eqOp .neq 155 false true t46 (.int .u64 0)) w fun t47 w =>
 CondV t47 (
 CallV Tryz.prog Z 223 #[x1] w fun t48 w =>
 run1 Tryz.prog Z (Instr.fieldAt 35 t5 8) w fun t49 w =>
 run0 Tryz.prog Z (Instr.storeAt 21 t49 t48) w fun w =>
 j_31 w) (
 j_31 w)) →
 j_30 w) →
 run1 Tryz.prog Z (binOp .and 155 t24 (.int .u64 32)) w fun t50 w =>
 run1 Tryz.prog Z (eqOp .neq 155 false true t50 (.int .u64 0)) w fun t51 w =>
 CondV t51 (
 CallV Tryz.prog Z 118 #[x1] w fun t52 w =>
 run1 Tryz.prog Z (Instr.fieldAt 35 t5 7) w fun t53 w =>
 run0 Tryz.prog Z (Instr.storeAt 2 t53 t52) w fun w =>
 j_30 w) (
 j_30 w)) →
 j_29 w) →
 run1 Tryz.prog Z (binOp .and 155 t24 (.int .u64 16)) w fun t54 w =>
 run1 Tryz.prog Z (eqOp .neq 155 false true t54 (.int .u64 0)) w fun t55 w =>
 CondV t55 (
 CallV Tryz.prog Z 104 #[x1] w fun t56 w =>
 run1 Tryz.prog Z (Instr.fieldAt 35 t5 5) w fun t57 w =>
 run0 Tryz.prog Z (Instr.storeAt 4 t57 t56) w fun w =>
 CallV Tryz.prog Z 104 #[x1] w fun t58 w =>
 run1 Tryz.prog Z (Instr.fieldAt 35 t5 6) w fun t59 w =>
 run0 Tryz.prog Z (Instr.storeAt 4 t59 t58) w fun w =>
 j_29 w) (
 j_29 w)) →
 j_28 w) →
 run1 Tryz.prog Z (binOp .and 155 t24 (.int .u64 8)) w fun t60 w =>
 run1 Tryz.prog Z (eqOp .neq 155 false true t60 (.int .u64 0)) w fun t61 w =>
 CondV t61 (
 CallV Tryz.prog Z 223 #[x1] w fun t62 w =>
 run1 Tryz.prog Z (Instr.fieldAt 35 t5 4) w fun t63 w =>
 run0 Tryz.prog Z (Instr.storeAt 21 t63 t62) w fun w =>
 j_28 w) (
 j_28 w)) →
 j_27 w) →
 run1 Tryz.prog Z (binOp .and 155 t24 (.int .u64 4)) w fun t64 w =>
 run1 Tryz.prog Z (eqOp .neq 155 false true t64 (.int .u64 0)) w fun t65 w =>
 CondV t65 (
 CallV Tryz.prog Z 249 #[x1, (.int .i64 4), (.func (.func 250) #[] #[])] w fun t66 w =>
 run1 Tryz.prog Z (Instr.fieldAt 35 t5 3) w fun t67 w =>
 run0 Tryz.prog Z (Instr.storeAt 31 t67 t66) w fun w =>
 j_27 w) (
 j_27 w)) →
 j_26 w) →
 run1 Tryz.prog Z (binOp .and 155 t24 (.int .u64 2)) w fun t68 w =>
 run1 Tryz.prog Z (eqOp .neq 155 false true t68 (.int .u64 0)) w fun t69 w =>
 CondV t69 (
 CallV Tryz.prog Z 113 #[x1, (.int .i64 96)] w fun t70 w =>
 run1 Tryz.prog Z (Instr.fieldAt 35 t5 2) w fun t71 w =>
 run0 Tryz.prog Z (Instr.storeAt 30 t71 t70) w fun w =>
 j_26 w) (
 j_26 w)) →
 j_25 w) →
 run1 Tryz.prog Z (binOp .and 155 t24 (.int .u64 1)) w fun t72 w =>
 run1 Tryz.prog Z (eqOp .neq 155 false true t72 (.int .u64 0)) w fun t73 w =>
 CondV t73 (
 CallV Tryz.prog Z 248 #[x1, (.int .i64 64)] w fun t74 w =>
 run1 Tryz.prog Z (Instr.fieldAt 35 t5 1) w fun t75 w =>
 run0 Tryz.prog Z (Instr.storeAt 9 t75 t74) w fun w =>
 j_25 w) (
 j_25 w))) w) w) w) w) w) w) w
def f218.an : An := (.sq .leaf (.sq .leaf (.sq (.sq .leaf (.cn (.sq .leaf (.sq .leaf .leaf)) .leaf)) (.sq .leaf (.sj [] (.sq .leaf (.cn .leaf .leaf)) (.sj [] (.sq .leaf (.cn .leaf .leaf)) (.sj [] (.sq .leaf (.cn .leaf .leaf)) (.sj [] (.sq .leaf (.cn .leaf .leaf)) (.sj [] (.sq .leaf (.cn (.sq .leaf .leaf) .leaf)) (.sj [] (.sq .leaf (.cn .leaf .leaf)) (.sj [] (.sq .leaf (.cn .leaf .leaf)) (.sj [] (.sq .leaf (.cn .leaf .leaf)) (.sj [] (.sq .leaf (.cn .leaf .leaf)) (.sq .leaf .leaf))))))))))))))
theorem f218.calls {Z : List PanicEntry → World → Prop} {x0 x1 : Value} {w : World} {Q : Value → World → Prop} (h : f218.sh Z x0 x1 w Q) : CallV Tryz.prog Z 218 #[x0, x1] w Q :=
 cl Tryz.func218 f218.an [x0, x1] (by kernel_rfl) (by kernel_rfl) h

def f219.sh (Z : List PanicEntry → World → Prop) (x0 : Value) (w : World) (Q : Value → World → Prop) : Prop :=
 run1 Tryz.prog Z (Instr.box 35 x0) w fun t1 w =>
 run1 Tryz.prog Z (Instr.fieldAt 35 t1 0) w fun t2 w =>
 run1 Tryz.prog Z (Instr.loadAt 22 t2) w fun t3 w =>
 CallV Tryz.prog Z 246 #[t3] w fun t4 w =>
 run1 Tryz.prog Z (Op.unary .not t4) w fun t5 w =>
 guardW (t5) false (fun k => run1 Tryz.prog Z (Instr.loadAt 35 t1) w k) (fun t6 w =>
 guardW (t5) false (fun k => CallV Tryz.prog Z 254 #[t6] w k) (fun t7 w =>
 guardW (t5) false (fun k => run1 Tryz.prog Z (Op.unary .not t7) w k) (fun t8 w =>
 run1 Tryz.prog Z (pickV t5 (.bool true) t8) w fun t9 w =>
 CondV t9 (
 Q (.int .i64 40) w) (
 run1 Tryz.prog Z (Instr.fieldAt 35 t1 10) w fun t10 w =>
 run1 Tryz.prog Z (Instr.loadAt 33 t10) w fun t11 w =>
 run1 Tryz.prog Z (Builtin.len_ #[33] 3 #[t11]) w fun t12 w =>
 ∃ J_13 : Nat → Value → World → Prop, (∃ m, J_13 m (.int .i64 0) w) ∧
 ∀ m_13, ∀ t14 : Value, ∀ w : World, J_13 m_13 t14 w → Env →
 run1 Tryz.prog Z (binOp .lss 3 t14 t12) w fun t15 w =>
 CondV t15 (
 run1 Tryz.prog Z (Instr.indexAt 33 t11 t14) w fun t16 w =>
 run1 Tryz.prog Z (Instr.loadAt 35 t16) w fun t17 w =>
 run1 Tryz.prog Z (Instr.alloc 35 true (.tuple #[])) w fun t18 w =>
 run0 Tryz.prog Z (Instr.storeAt 35 t18 t17) w fun w =>
 run1 Tryz.prog Z (Instr.loadAt 35 t18) w fun t19 w =>
 CallV Tryz.prog Z 255 #[t19] w fun t20 w =>
 run1 Tryz.prog Z (Op.unary .not t20) w fun t21 w =>
 CondV t21 (
 Q (.int .i64 40) w) (
 run1 Tryz.prog Z (binOp .add 3 t14 (.int .i64 1)) w fun t22 w =>
 ∃ n_13, n_13 < m_13 ∧ J_13 n_13 t22 w)) (
 Q (.int .i64 0) w))) w) w) w
def f219.an : An := (.sq .leaf (.sq (.sq .leaf (.cn (.sq .leaf .leaf) .leaf)) (.sq (.sq .leaf (.bl (.lp [17] (.sq .leaf (.sq (.cn .leaf .leaf) (.sq (.bl (.sq .leaf (.sq .leaf (.cn (.sq .leaf .leaf) .leaf)))) .leaf)))))) (.sq .leaf .leaf))))
theorem f219.calls {Z : List PanicEntry → World → Prop} {x0 : Value} {w : World} {Q : Value → World → Prop} (h : f219.sh Z x0 w Q) : CallV Tryz.prog Z 219 #[x0] w Q :=
 cl Tryz.func219 f219.an [x0] (by kernel_rfl) (by kernel_rfl) h

def f220.sh (Z : List PanicEntry → World → Prop) (x0 : Value) (w : World) (Q : Value → World → Prop) : Prop :=
 run1 Tryz.prog Z (Builtin.len_ #[168] 3 #[x0]) w fun t1 w =>
 ∃ J_2 : Nat → Value → World → Prop, (∃ m, J_2 m (.int .i64 0) w) ∧
 ∀ m_2, ∀ t3 : Value, ∀ w : World, J_2 m_2 t3 w → Env →
 run1 Tryz.prog Z (binOp .lss 3 t3 t1) w fun t4 w =>
 CondV t4 (
 run1 Tryz.prog Z (Instr.indexAt 168 x0 t3) w fun t5 w =>
 run1 Tryz.prog Z (Instr.loadAt 3 t5) w fun t6 w =>
 run1 Tryz.prog Z (eqOp .neq 3 false false t6 (.int .i64 0)) w fun t7 w =>
 CondV t7 (
 Q t6 w) (
 run1 Tryz.prog Z (binOp .add 3 t3 (.int .i64 1)) w fun t8 w =>
 ∃ n_2, n_2 < m_2 ∧ J_2 n_2 t8 w)) (
 Q (.int .i64 0) w)
def f220.an : An := (.sq .leaf (.sq .leaf (.sq (.sq .leaf (.bl (.lp [8] (.sq .leaf (.sq (.cn .leaf .leaf) (.sq (.bl (.sq .leaf (.sq .leaf (.cn (.sq .leaf .leaf) .leaf)))) .leaf)))))) (.sq .leaf .leaf))))
theorem f220.calls {Z : List PanicEntry → World → Prop} {x0 : Value} {w : World} {Q : Value → World → Prop} (h : f220.sh Z x0 w Q) : CallV Tryz.prog Z 220 #[x0] w Q :=
 cl Tryz.func220 f220.an [x0] (by kernel_rfl) (by kernel_rfl) h

def f221.sh (Z : List PanicEntry → World → Prop) (x0 x1 : Value) (w : World) (Q : Value → World → Prop) : Prop :=
 CallV Tryz.prog Z 256 #[x0] w fun t1 w =>
 CallV Tryz.prog Z 256 #[x1] w fun t2 w =>
 CondV t1 (
 CondV t2 (
 Q (.int .i64 0) w) (
 Q (.int .i64 (-1)) w)) (
 CondV t2 (
 Q (.int .i64 1) w) (
 run1 Tryz.prog Z (binOp .lss 23 x0 x1) w fun t3 w =>
 CondV t3 (
 Q (.int .i64 (-1)) w) (
 run1 Tryz.prog Z (binOp .gtr 23 x0 x1) w fun t4 w =>
 CondV t4 (
 Q (.int .i64 1) w) (
 Q (.int .i64 0) w))))
def f221.an : An := (.sq .leaf (.sq .leaf (.sq .leaf (.sq (.sq .leaf (.cn (.sq (.sq .leaf (.cn (.sq .leaf .leaf) .leaf)) (.sq .leaf .leaf)) .leaf)) (.sq (.sq .leaf (.cn (.sq .leaf .leaf) .leaf)) (.sq (.sq .leaf (.cn (.sq .leaf .leaf) .leaf)) (.sq (.sq .leaf (.cn (.sq .leaf .leaf) .leaf)) (.sq .leaf .leaf))))))))
theorem f221.calls {Z : List PanicEntry → World → Prop} {x0 x1 : Value} {w : World} {Q : Value → World → Prop} (h : f221.sh Z x0 x1 w Q) : CallV Tryz.prog Z 221 #[x0, x1] w Q :=
 cl Tryz.func221 f221.an [x0, x1] (by kernel_rfl) (by kernel_rfl) h

def f222.sh (Z : List PanicEntry → World → Prop) (x0 : Value) (w : World) (Q : Value → World → Prop) : Prop :=
 CallV Tryz.prog Z 170 #[x0] w fun t1 w =>
 CondV t1 (
 Q (.slice none 0 0) w) (
 runX Tryz.prog Z (nilChk x0) w fun t2 w =>
 run1 Tryz.prog Z (Instr.fieldAt 239 t2 1) w fun t3 w =>
 run1 Tryz.prog Z (Instr.loadAt 30 t3) w fun t4 w =>
 Q t4 w)
def f222.an : An := (.sq .leaf (.sq (.sq .leaf (.cn (.sq .leaf .leaf) .leaf)) (.sq .leaf .leaf)))
theorem f222.calls {Z : List PanicEntry → World → Prop} {x0 : Value} {w : World} {Q : Value → World → Prop} (h : f222.sh Z x0 w Q) : CallV Tryz.prog Z 222 #[x0] w Q :=
 cl Tryz.func222 f222.an [x0] (by kernel_rfl) (by kernel_rfl) h

def f223.sh (Z : List PanicEntry → World → Prop) (x0 : Value) (w : World) (Q : Value → World → Prop) : Prop :=
 CallV Tryz.prog Z 169 #[x0, (.int .i64 4)] w fun t1 w =>
 run1 Tryz.prog Z (convert 147 21 t1) w fun t2 w =>
 Q t2 w
def f223.an : An := (.sq .leaf (.sq .leaf .leaf))
theorem f223.calls {Z : List PanicEntry → World → Prop} {x0 : Value} {w : World} {Q : Value → World → Prop} (h : f223.sh Z x0 w Q) : CallV Tryz.prog Z 223 #[x0] w Q :=
 cl Tryz.func223 f223.an [x0] (by kernel_rfl) (by kernel_rfl) h

def f224.sh (Z : List PanicEntry → World → Prop) (x0 x1 x2 : Value) (w : World) (Q : Value → World → Prop) : Prop :=
 runX Tryz.prog Z (nilChk x0) w fun t1 w =>
 run1 Tryz.prog Z (Instr.fieldAt 239 t1 1) w fun t2 w =>
 run0 Tryz.prog Z (Instr.storeAt 30 t2 x1) w fun w =>
 runX Tryz.prog Z (nilChk x0) w fun t3 w =>
 run1 Tryz.prog Z (Instr.fieldAt 239 t3 2) w fun t4 w =>
 run0 Tryz.prog Z (Instr.storeAt 43 t4 x2) w fun w =>
 Q (Value.tuple #[]) w
def f224.an : An := .leaf
theorem f224.calls {Z : List PanicEntry → World → Prop} {x0 x1 x2 : Value} {w : World} {Q : Value → World → Prop} (h : f224.sh Z x0 x1 x2 w Q) : CallV Tryz.prog Z 224 #[x0, x1, x2] w Q :=
 cl Tryz.func224 f224.an [x0, x1, x2] (by kernel_rfl) (by kernel_rfl) h

def f225.sh (Z : List PanicEntry → World → Prop) (x0 x1 : Value) (w : World) (Q : Value → World → Prop) : Prop :=
 run1 Tryz.prog Z (convert 30 9 x0) w fun t1 w =>
 run1 Tryz.prog Z (convert 30 9 x1) w fun t2 w =>
 run1 Tryz.prog Z (eqOp .eql 9 false false t1 t2) w fun t3 w =>
 Q t3 w
def f225.an : An := (.sq .leaf (.sq .leaf .leaf))
theorem f225.calls {Z : List PanicEntry → World → Prop} {x0 x1 : Value} {w : World} {Q : Value → World → Prop} (h : f225.sh Z x0 x1 w Q) : CallV Tryz.prog Z 225 #[x0, x1] w Q :=
 cl Tryz.func225 f225.an [x0, x1] (by kernel_rfl) (by kernel_rfl) h

def f226.sh (Z : List PanicEntry → World → Prop) (x0 x1 : Value) (w : World) (Q : Value → World → Prop) : Prop :=
 run1 Tryz.prog Z (Builtin.len_ #[31] 3 #[x0]) w fun t1 w =>
 run1 Tryz.prog Z (Builtin.len_ #[31] 3 #[x1]) w fun t2 w =>
 run1 Tryz.prog Z (eqOp .neq 3 false false t1 t2) w fun t3 w =>
 CondV t3 (
 Q (.bool false) w) (
 run1 Tryz.prog Z (Builtin.len_ #[31] 3 #[x0]) w fun t4 w =>
 ∃ J_5 : Nat → Value → World → Prop, (∃ m, J_5 m (.int .i64 0) w) ∧
 ∀ m_5, ∀ t6 : Value, ∀ w : World, J_5 m_5 t6 w → Env →
 run1 Tryz.prog Z (binOp .lss 3 t6 t4) w fun t7 w =>
 CondV t7 (
 Drawn w fun w =>
 Pure1 Tryz.prog (Instr.indexAt 31 x0 t6) fun t8 =>
 Read1 Tryz.prog (Instr.loadAt 178 t8) w fun t9 =>
 Pure1 Tryz.prog (Instr.indexAt 31 x1 t6) fun t10 =>
 Read1 Tryz.prog (Instr.loadAt 178 t10) w fun t11 =>
 Pure1 Tryz.prog (eqOp .neq 178 false false t9 t11) fun t12 =>
 CondV t12 (
 Q (.bool false) w) (
 run1 Tryz.prog Z (binOp .add 3 t6 (.int .i64 1)) w fun t13 w =>
 ∃ n_5, n_5 < m_5 ∧ J_5 n_5 t13 w)) (
 Q (.bool true) w))
def f226.an : An := (.sq .leaf (.sq (.sq .leaf (.cn (.sq .leaf .leaf) .leaf)) (.sq (.sq .leaf (.bl (.lp [13] (.sq .leaf (.sq (.cn .leaf .leaf) (.sq (.bl (.sq .leaf (.sq (.dr (pl [0, 4, 8, 13, 16, 20, 24, 29, 32] .fin)) (.cn (.sq .leaf .leaf) .leaf)))) .leaf)))))) (.sq .leaf .leaf))))
theorem f226.calls {Z : List PanicEntry → World → Prop} {x0 x1 : Value} {w : World} {Q : Value → World → Prop} (h : f226.sh Z x0 x1 w Q) : CallV Tryz.prog Z 226 #[x0, x1] w Q :=
 cl Tryz.func226 f226.an [x0, x1] (by kernel_rfl) (by kernel_rfl) h

def f227.sh (Z : List PanicEntry → World → Prop) (x0 x1 : Value) (w : World) (Q : Value → World → Prop) : Prop :=
 run1 Tryz.prog Z (Builtin.len_ #[32] 3 #[x0]) w fun t1 w =>
 run1 Tryz.prog Z (Builtin.len_ #[32] 3 #[x1]) w fun t2 w =>
 run1 Tryz.prog Z (eqOp .neq 3 false false t1 t2) w fun t3 w =>
 CondV t3 (
 Q (.bool false) w) (
 run1 Tryz.prog Z (Builtin.len_ #[32] 3 #[x0]) w fun t4 w =>
 ∃ J_5 : Nat → Value → World → Prop, (∃ m, J_5 m (.int .i64 0) w) ∧
 ∀ m_5, ∀ t6 : Value, ∀ w : World, J_5 m_5 t6 w → Env →
 run1 Tryz.prog Z (binOp .lss 3 t6 t4) w fun t7 w =>
 CondV t7 (
 Drawn w fun w =>
 Pure1 Tryz.prog (Instr.indexAt 32 x0 t6) fun t8 =>
 Read1 Tryz.prog (Instr.loadAt 175 t8) w fun t9 =>
 Pure1 Tryz.prog (Instr.indexAt 32 x1 t6) fun t10 =>
 Read1 Tryz.prog (Instr.loadAt 175 t10) w fun t11 =>
 Pure1 Tryz.prog (eqOp .neq 175 false false t9 t11) fun t12 =>
 CondV t12 (
 Q (.bool false) w) (
 run1 Tryz.prog Z (binOp .add 3 t6 (.int .i64 1)) w fun t13 w =>
 ∃ n_5, n_5 < m_5 ∧ J_5 n_5 t13 w)) (
 Q (.bool true) w))
def f227.an : An := (.sq .leaf (.sq (.sq .leaf (.cn (.sq .leaf .leaf) .leaf)) (.sq (.sq .leaf (.bl (.lp [13] (.sq .leaf (.sq (.cn .leaf .leaf) (.sq (.bl (.sq .leaf (.sq (.dr (pl [0, 4, 8, 13, 16, 20, 24, 29, 32] .fin)) (.cn (.sq .leaf .leaf) .leaf)))) .leaf)))))) (.sq .leaf .leaf))))
theorem f227.calls {Z : List PanicEntry → World → Prop} {x0 x1 : Value} {w : World} {Q : Value → World → Prop} (h : f227.sh Z x0 x1 w Q) : CallV Tryz.prog Z 227 #[x0, x1] w Q :=
 cl Tryz.func227 f227.an [x0, x1] (by kernel_rfl) (by kernel_rfl) h

def f228.sh (Z : List PanicEntry → World → Prop) (x0 x1 x2 : Value) (w : World) (Q : Value → World → Prop) : Prop :=
 run1 Tryz.prog Z (Builtin.len_ #[33] 3 #[x0]) w fun t1 w =>
 run1 Tryz.prog Z (Builtin.len_ #[33] 3 #[x1]) w fun t2 w =>
 run1 Tryz.prog Z (eqOp .neq 3 false false t1 t2) w fun t3 w =>
 CondV t3 (
 Q (.bool false) w) (
 run1 Tryz.prog Z (Builtin.len_ #[33] 3 #[x0]) w fun t4 w =>
 ∃ J_5 : Nat → Value → World → Prop, (∃ m, J_5 m (.int .i64 0) w) ∧
 ∀ m_5, ∀ t6 : Value, ∀ w : World, J_5 m_5 t6 w → Env →
 run1 Tryz.prog Z (binOp .lss 3 t6 t4) w fun t7 w =>
 CondV t7 (
 run1 Tryz.prog Z (Instr.indexAt 33 x0 t6) w fun t8 w =>
 run1 Tryz.prog Z (Instr.loadAt 35 t8) w fun t9 w =>
 run1 Tryz.prog Z (Instr.alloc 35 true (.tuple #[])) w fun t10 w =>
 run0 Tryz.prog Z (Instr.storeAt 35 t10 t9) w fun w =>
 run1 Tryz.prog Z (Instr.indexAt 33 x1 t6) w fun t11 w =>
 run1 Tryz.prog Z (Instr.loadAt 35 t11) w fun t12 w =>
 run1 Tryz.prog Z (Instr.alloc 35 true (.tuple #[])) w fun t13 w =>
 run0 Tryz.prog Z (Instr.storeAt 35 t13 t12) w fun w =>
 run1 Tryz.prog Z (Instr.loadAt 35 t10) w fun t14 w =>
 run1 Tryz.prog Z (Instr.loadAt 35 t13) w fun t15 w =>
 runX Tryz.prog Z (callVal x2 #[t14, t15]) w fun t16 w =>
 run1 Tryz.prog Z (Op.unary .not t16) w fun t17 w =>
 CondV t17 (
 Q (.bool false) w) (
 run1 Tryz.prog Z (binOp .add 3 t6 (.int .i64 1)) w fun t18 w =>
 ∃ n_5, n_5 < m_5 ∧ J_5 n_5 t18 w)) (
 Q (.bool true) w))
def f228.an : An := (.sq .leaf (.sq (.sq .leaf (.cn (.sq .leaf .leaf) .leaf)) (.sq (.sq .leaf (.bl (.lp [17] (.sq .leaf (.sq (.cn .leaf .leaf) (.sq (.bl (.sq .leaf (.sq .leaf (.sq .leaf (.cn (.sq .leaf .leaf) .leaf))))) .leaf)))))) (.sq .leaf .leaf))))
theorem f228.calls {Z : List PanicEntry → World → Prop} {x0 x1 x2 : Value} {w : World} {Q : Value → World → Prop} (h : f228.sh Z x0 x1 x2 w Q) : CallV Tryz.prog Z 228 #[x0, x1, x2] w Q :=
 cl Tryz.func228 f228.an [x0, x1, x2] (by kernel_rfl) (by kernel_rfl) h

def f229.sh (Z : List PanicEntry → World → Prop) (x0 : Value) (w : World) (Q : Value → World → Prop) : Prop :=
 ∀ j_1 : World → Prop, (∀ w : World, (Env →
 Q (.string { data := #[] }) w) →
 j_1 w) →
 run1 Tryz.prog Z (eqOp .eql 22 false true x0 (.int .i8 1)) w fun t2 w =>
 CondV t2 (
 Q (.string { data := #[112, 100, 97, 102, 115, 119] }) w) (
 ∀ j_3 : Value → World → Prop, (∀ t4 : Value, ∀ w : World, (Env →
 CondV t4 (
 Q (.string { data := #[112, 118, 115, 119] }) w) (
 run1 Tryz.prog Z (eqOp .eql 22 false true x0 (.int .i8 3)) w fun t5 w =>
 CondV t5 (
 Q (.string { data := #[112, 100, 118, 115, 119] }) w) (
 run1 Tryz.prog Z (eqOp .eql 22 false true x0 (.int .i8 4)) w fun t6 w =>
 CondV t6 (
 Q (.string { data := #[112, 97, 118, 115, 119] }) w) (
 run1 Tryz.prog Z (eqOp .eql 22 false true x0 (.int .i8 6)) w fun t7 w =>
 CondV t7 (
 Q (.string { data := #[115, 119, 111] }) w) (
 run1 Tryz.prog Z (eqOp .eql 22 false true x0 (.int .i8 7)) w fun t8 w =>
 CondV t8 (
 Q (.string { data := #[116] }) w) (
 run1 Tryz.prog Z (eqOp .eql 22 false true x0 (.int .i8 8)) w fun t9 w =>
 CondV t9 (
 Q (.string { data := #[115] }) w) (
 ∀ j_10 : Value → World → Prop, (∀ t11 : Value, ∀ w : World, (Env →
 CondV t11 (
 Q (.string { data := #[112, 115, 119] }) w) (
 j_1 w)) →
 j_10 t11 w) →
 run1 Tryz.prog Z (eqOp .eql 22 false true x0 (.int .i8 9)) w fun t12 w =>
 CondV t12 (
 j_10 t12 w) (
 run1 Tryz.prog Z (eqOp .eql 22 false true x0 (.int .i8 10)) w fun t13 w =>
 CondV t13 (
 j_10 t13 w) (
 run1 Tryz.prog Z (eqOp .eql 22 false true x0 (.int .i8 11)) w fun t14 w =>
 CondV t14 (
 j_10 t14 w) (
 run1 Tryz.prog Z (eqOp .eql 22 false true x0 (.int .i8 12)) w fun t15 w =>
 j_10 t15 w)))))))))) →
 j_3 t4 w) →
 run1 Tryz.prog Z (eqOp .eql 22 false true x0 (.int .i8 2)) w fun t16 w =>
 CondV t16 (
 j_3 t16 w) (
 run1 Tryz.prog Z (eqOp .eql 22 false true x0 (.int .i8 5)) w fun t17 w =>
 j_3 t17 w))
def f229.an : An := (.sq .leaf (.sj [] (.sq .leaf (.bl (.sq .leaf (.cn (.sq .leaf .leaf) (.sj [6] (.sq .leaf (.cn .leaf .leaf)) (.cn (.sq .leaf .leaf) (.sq .leaf (.cn (.sq .leaf .leaf) (.sq .leaf (.cn (.sq .leaf .leaf) (.sq .leaf (.cn (.sq .leaf .leaf) (.sq .leaf (.cn (.sq .leaf .leaf) (.sq .leaf (.cn (.sq .leaf .leaf) (.sj [19] (.sq .leaf (.cn .leaf (.sq .leaf (.cn .leaf (.sq .leaf (.cn .leaf .leaf)))))) (.cn (.sq .leaf .leaf) .leaf)))))))))))))))))) (.sq .leaf .leaf)))
theorem f229.calls {Z : List PanicEntry → World → Prop} {x0 : Value} {w : World} {Q : Value → World → Prop} (h : f229.sh Z x0 w Q) : CallV Tryz.prog Z 229 #[x0] w Q :=
 cl Tryz.func229 f229.an [x0] (by kernel_rfl) (by kernel_rfl) h

def f230.sh (Z : List PanicEntry → World → Prop) (x0 x1 : Value) (w : World) (Q : Value → World → Prop) : Prop :=
 ∃ J_1 : Nat → Value → World → Prop, (∃ m, J_1 m (.int .i64 0) w) ∧
 ∀ m_1, ∀ t2 : Value, ∀ w : World, J_1 m_1 t2 w → Env →
 run1 Tryz.prog Z (Builtin.len_ #[9] 3 #[x0]) w fun t3 w =>
 run1 Tryz.prog Z (binOp .lss 3 t2 t3) w fun t4 w =>
 CondV t4 (
 run1 Tryz.prog Z (Instr.index 9 x0 t2) w fun t5 w =>
 run1 Tryz.prog Z (eqOp .eql 5 false false t5 x1) w fun t6 w =>
 CondV t6 (
 Q (.bool true) w) (
 run1 Tryz.prog Z (binOp .add 3 t2 (.int .i64 1)) w fun t7 w =>
 ∃ n_1, n_1 < m_1 ∧ J_1 n_1 t7 w)) (
 Q (.bool false) w)
def f230.an : An := (.sq .leaf (.sq (.sq .leaf (.bl (.lp [5] (.sq (.sq .leaf (.cn .leaf .leaf)) (.sq (.bl (.sq .leaf (.cn (.sq .leaf .leaf) .leaf))) .leaf))))) (.sq .leaf .leaf)))
theorem f230.calls {Z : List PanicEntry → World → Prop} {x0 x1 : Value} {w : World} {Q : Value → World → Prop} (h : f230.sh Z x0 x1 w Q) : CallV Tryz.prog Z 230 #[x0, x1] w Q :=
 cl Tryz.func230 f230.an [x0, x1] (by kernel_rfl) (by kernel_rfl) h

def f231.sh (Z : List PanicEntry → World → Prop) (x0 : Value) (w : World) (Q : Value → World → Prop) : Prop :=
 ∃ J_1 : Nat → Value → World → Prop, (∃ m, J_1 m (.int .i64 0) w) ∧
 ∀ m_1, ∀ t2 : Value, ∀ w : World, J_1 m_1 t2 w → Env →
 run1 Tryz.prog Z (Builtin.len_ #[31] 3 #[x0]) w fun t3 w =>
 run1 Tryz.prog Z (binOp .lss 3 t2 t3) w fun t4 w =>
 CondV t4 (
 run1 Tryz.prog Z (Instr.indexAt 31 x0 t2) w fun t5 w =>
 run1 Tryz.prog Z (Instr.fieldAt 178 t5 1) w fun t6 w =>
 run1 Tryz.prog Z (Instr.fieldAt 175 t6 0) w fun t7 w =>
 run1 Tryz.prog Z (Instr.loadAt 9 t7) w fun t8 w =>
 run1 Tryz.prog Z (Builtin.len_ #[9] 3 #[t8]) w fun t9 w =>
 run1 Tryz.prog Z (binOp .gtr 3 t9 (.int .i64 24)) w fun t10 w =>
 guardW (t10) false (fun k => k (x0) w) (fun t11 w =>
 guardW (t10) false (fun k => k (t2) w) (fun t12 w =>
 guardW (t10) false (fun k => run1 Tryz.prog Z (Instr.indexAt 31 t11 t12) w k) (fun t13 w =>
 guardW (t10) false (fun k => run1 Tryz.prog Z (Instr.fieldAt 178 t13 1) w k) (fun t14 w =>
 guardW (t10) false (fun k => run1 Tryz.prog Z (Instr.fieldAt 175 t14 1) w k) (fun t15 w =>
 guardW (t10) false (fun k => run1 Tryz.prog Z (Instr.loadAt 9 t15) w k) (fun t16 w =>
 guardW (t10) false (fun k => run1 Tryz.prog Z (Builtin.len_ #[9] 3 #[t16]) w k) (fun t17 w =>
 guardW (t10) false (fun k => run1 Tryz.prog Z (binOp .gtr 3 t17 (.int .i64 24)) w k) (fun t18 w =>
 run1 Tryz.prog Z (pickV t10 (.bool true) t18) w fun t19 w =>
 CondV t19 (
 Q (.bool false) w) (
 run1 Tryz.prog Z (binOp .add 3 t2 (.int .i64 1)) w fun t20 w =>
 ∃ n_1, n_1 < m_1 ∧ J_1 n_1 t20 w)) w) w) w) w) w) w) w) w) (
 run1 Tryz.prog Z (Builtin.len_ #[31] 3 #[x0]) w fun t21 w =>
 run1 Tryz.prog Z (binOp .leq 3 t21 (.int .i64 4)) w fun t22 w =>
 Q t22 w)
def f231.an : An := (.sq .leaf (.sq (.sq .leaf (.bl (.lp [3] (.sq (.sq .leaf (.cn .leaf .leaf)) (.sq (.bl (.sq .leaf (.cn (.sq .leaf .leaf) .leaf))) .leaf))))) (.sq .leaf .leaf)))
theorem f231.calls {Z : List PanicEntry → World → Prop} {x0 : Value} {w : World} {Q : Value → World → Prop} (h : f231.sh Z x0 w Q) : CallV Tryz.prog Z 231 #[x0] w Q :=
 cl Tryz.func231 f231.an [x0] (by kernel_rfl) (by kernel_rfl) h

def f232.sh (Z : List PanicEntry → World → Prop) (x0 : Value) (w : World) (Q : Value → World → Prop) : Prop :=
 ∃ J_1 : Nat → Value → World → Prop, (∃ m, J_1 m (.int .i64 0) w) ∧
 ∀ m_1, ∀ t2 : Value, ∀ w : World, J_1 m_1 t2 w → Env →
 run1 Tryz.prog Z (Builtin.len_ #[32] 3 #[x0]) w fun t3 w =>
 run1 Tryz.prog Z (binOp .lss 3 t2 t3) w fun t4 w =>
 CondV t4 (
 run1 Tryz.prog Z (Instr.indexAt 32 x0 t2) w fun t5 w =>
 run1 Tryz.prog Z (Instr.fieldAt 175 t5 0) w fun t6 w =>
 run1 Tryz.prog Z (Instr.loadAt 9 t6) w fun t7 w =>
 run1 Tryz.prog Z (Builtin.len_ #[9] 3 #[t7]) w fun t8 w =>
 run1 Tryz.prog Z (binOp .gtr 3 t8 (.int .i64 24)) w fun t9 w =>
 guardW (t9) false (fun k => k (x0) w) (fun t10 w =>
 guardW (t9) false (fun k => k (t2) w) (fun t11 w =>
 guardW (t9) false (fun k => run1 Tryz.prog Z (Instr.indexAt 32 t10 t11) w k) (fun t12 w =>
 guardW (t9) false (fun k => run1 Tryz.prog Z (Instr.fieldAt 175 t12 1) w k) (fun t13 w =>
 guardW (t9) false (fun k => run1 Tryz.prog Z (Instr.loadAt 9 t13) w k) (fun t14 w =>
 guardW (t9) false (fun k => run1 Tryz.prog Z (Builtin.len_ #[9] 3 #[t14]) w k) (fun t15 w =>
 guardW (t9) false (fun k => run1 Tryz.prog Z (binOp .gtr 3 t15 (.int .i64 24)) w k) (fun t16 w =>
 run1 Tryz.prog Z (pickV t9 (.bool true) t16) w fun t17 w =>
 CondV t17 (
 Q (.bool false) w) (
 run1 Tryz.prog Z (binOp .add 3 t2 (.int .i64 1)) w fun t18 w =>
 ∃ n_1, n_1 < m_1 ∧ J_1 n_1 t18 w)) w) w) w) w) w) w) w) (
 run1 Tryz.prog Z (Builtin.len_ #[32] 3 #[x0]) w fun t19 w =>
 run1 Tryz.prog Z (binOp .leq 3 t19 (.int .i64 4)) w fun t20 w =>
 Q t20 w)
def f232.an : An := (.sq .leaf (.sq (.sq .leaf (.bl (.lp [3] (.sq (.sq .leaf (.cn .leaf .leaf)) (.sq (.bl (.sq .leaf (.cn (.sq .leaf .leaf) .leaf))) .leaf))))) (.sq .leaf .leaf)))
theorem f232.calls {Z : List PanicEntry → World → Prop} {x0 : Value} {w : World} {Q : Value → World → Prop} (h : f232.sh Z x0 w Q) : CallV Tryz.prog Z 232 #[x0] w Q :=
 cl Tryz.func232 f232.an [x0] (by kernel_rfl) (by kernel_rfl) h

end Go.Proofs.YtfijkedmbaghmaaGreatDoor
