import Derived.Test.YtfijkedmbaghmaaGreatDoorShBase
set_option linter.unusedVariables false
namespace Go.Proofs.YtfijkedmbaghmaaGreatDoor
open Go.Sh
open Go.Instr (loadAt storeAt fieldAt indexAt extract)
open Tryz renaming prog → π
def f237.sh (Z:PZ) (x0:Value) (w:World) (Q:PQ):Prop:=
 rN π Z (convert 9 30 x0) w fun t1 w=>
 CallV π Z 180 #[t1] w fun t2 w=>
 Q t2 w
def f237.an:An:=(.q (.sq .leaf .leaf))
theorem f237.calls {Z:PZ} {x0:Value} {w:World} {Q:PQ} (h:f237.sh Z x0 w Q):CallV π Z 237 #[x0] w Q:=
 cl Tryz.func237 f237.an [x0] (by kernel_rfl) (by kernel_rfl) h

def f238.sh (Z:PZ) (x0 x1:Value) (w:World) (Q:PQ):Prop:=
 rN π Z (Instr.box 175 x1) w fun t1 w=>
 rN π Z (fieldAt 175 t1 0) w fun t2 w=>
 rN π Z (loadAt 9 t2) w fun t3 w=>
 CallV π Z 237 #[t3] w fun t4 w=>
 CallV π Z 214 #[x0,t4] w fun t5 w=>
 rN π Z (fieldAt 175 t1 1) w fun t6 w=>
 rN π Z (loadAt 9 t6) w fun t7 w=>
 CallV π Z 237 #[t7] w fun t8 w=>
 CallV π Z 214 #[t5,t8] w fun t9 w=>
 Q t9 w
def f238.an:An:=(.q (.q (.sq .leaf .leaf)))
theorem f238.calls {Z:PZ} {x0 x1:Value} {w:World} {Q:PQ} (h:f238.sh Z x0 x1 w Q):CallV π Z 238 #[x0,x1] w Q:=
 cl Tryz.func238 f238.an [x0,x1] (by kernel_rfl) (by kernel_rfl) h

def f239.sh (Z:PZ) (x0 x1:Value) (w:World) (Q:PQ):Prop:=
 rN π Z (Instr.box 267 x0) w fun t1 w=>
 rN π Z (fieldAt 267 t1 0) w fun t2 w=>
 rN π Z (loadAt 4 t2) w fun t3 w=>
 cV t3 (
 rN π Z (indexAt 296 (.pointer (some ⟨1,0,none⟩)) x1) w fun t4 w=>
 rN π Z (loadAt 155 t4) w fun t5 w=>
 rN π Z (binOp .andNot 155 t5 (.int .u64 160)) w fun t6 w=>
 Q t6 w) (
 rN π Z (indexAt 296 (.pointer (some ⟨1,0,none⟩)) x1) w fun t7 w=>
 rN π Z (loadAt 155 t7) w fun t8 w=>
 Q t8 w)
def f239.an:An:=(.q (.sq (.q (.cn (.sq .leaf .leaf) .leaf)) (.sq .leaf .leaf)))
theorem f239.calls {Z:PZ} {x0 x1:Value} {w:World} {Q:PQ} (h:f239.sh Z x0 x1 w Q):CallV π Z 239 #[x0,x1] w Q:=
 cl Tryz.func239 f239.an [x0,x1] (by kernel_rfl) (by kernel_rfl) h

def f240.sh (Z:PZ) (x0 x1:Value) (w:World) (Q:PQ):Prop:=
 rN π Z (eqOp .eql 86 false true x0 (.pointer none)) w fun t1 w=>
 cV t1 (
 Q (Value.tuple #[]) w) (
 rN π Z (Builtin.len_ #[9] 3 #[x1]) w fun t2 w=>
 rN π Z (convert 3 21 t2) w fun t3 w=>
 CallV π Z 198 #[x0,t3] w fun t4 w=>
 runX π Z (nilChk x0) w fun t5 w=>
 rN π Z (fieldAt 88 t5 0) w fun t6 w=>
 rN π Z (loadAt 30 t6) w fun t7 w=>
 rN π Z (Builtin.append_ #[30,9] 30 #[t7,x1]) w fun t8 w=>
 runX π Z (nilChk x0) w fun t9 w=>
 rN π Z (fieldAt 88 t9 0) w fun t10 w=>
 rO π Z (storeAt 30 t10 t8) w fun w=>
 Q (Value.tuple #[]) w)
def f240.an:An:=(.sq (.q (.c)) (.sq .leaf .leaf))
theorem f240.calls {Z:PZ} {x0 x1:Value} {w:World} {Q:PQ} (h:f240.sh Z x0 x1 w Q):CallV π Z 240 #[x0,x1] w Q:=
 cl Tryz.func240 f240.an [x0,x1] (by kernel_rfl) (by kernel_rfl) h

def f241.sh (Z:PZ) (x0 x1 x2:Value) (w:World) (Q:PQ):Prop:=
 rN π Z (eqOp .eql 86 false true x0 (.pointer none)) w fun t1 w=>
 cV t1 (
 Q (Value.tuple #[]) w) (
 rN π Z (Builtin.len_ #[31] 3 #[x1]) w fun t2 w=>
 rN π Z (convert 3 21 t2) w fun t3 w=>
 CallV π Z 198 #[x0,t3] w fun t4 w=>
 rN π Z (eqOp .eql 282 false true x2 .nilFunc) w fun t5 w=>
 cV t5 (
 Q (Value.tuple #[]) w) (
 rN π Z (Builtin.len_ #[31] 3 #[x1]) w fun t6 w=>
 ∃J_7:Nat→PQ,(∃m,J_7 m (.int .i64 0) w) ∧
 ∀m_7,∀t8:Value,∀w:World,J_7 m_7 t8 w→Env →
 rN π Z (binOp .lss 3 t8 t6) w fun t9 w=>
 cV t9 (
 rN π Z (indexAt 31 x1 t8) w fun t10 w=>
 rN π Z (loadAt 178 t10) w fun t11 w=>
 rN π Z (Instr.alloc 178 true (.tuple #[])) w fun t12 w=>
 rO π Z (storeAt 178 t12 t11) w fun w=>
 rN π Z (loadAt 178 t12) w fun t13 w=>
 runX π Z (callVal x2 #[x0,t13]) w fun t14 w=>
 rN π Z (binOp .add 3 t8 (.int .i64 1)) w fun t15 w=>
 ∃n_7,n_7 < m_7∧J_7 n_7 t15 w) (
 Q (Value.tuple #[]) w)))
def f241.an:An:=(.sq (.q (.c)) (.q (.sq (.q (.c)) (.q (.bl (.lp [19] (.q (.sq (.c) (.sq (.bl (.sq .leaf .leaf)) .leaf)))))))))
theorem f241.calls {Z:PZ} {x0 x1 x2:Value} {w:World} {Q:PQ} (h:f241.sh Z x0 x1 x2 w Q):CallV π Z 241 #[x0,x1,x2] w Q:=
 cl Tryz.func241 f241.an [x0,x1,x2] (by kernel_rfl) (by kernel_rfl) h

def f242.sh (Z:PZ) (x0 x1:Value) (w:World) (Q:PQ):Prop:=
 rN π Z (Instr.box 178 x1) w fun t1 w=>
 rN π Z (fieldAt 178 t1 0) w fun t2 w=>
 rN π Z (loadAt 22 t2) w fun t3 w=>
 CallV π Z 30 #[x0,t3] w fun t4 w=>
 rN π Z (fieldAt 178 t1 1) w fun t5 w=>
 rN π Z (loadAt 175 t5) w fun t6 w=>
 CallV π Z 244 #[x0,t6] w fun t7 w=>
 Q (Value.tuple #[]) w
def f242.an:An:=(.q (.sq .leaf .leaf))
theorem f242.calls {Z:PZ} {x0 x1:Value} {w:World} {Q:PQ} (h:f242.sh Z x0 x1 w Q):CallV π Z 242 #[x0,x1] w Q:=
 cl Tryz.func242 f242.an [x0,x1] (by kernel_rfl) (by kernel_rfl) h

def f243.sh (Z:PZ) (x0 x1 x2:Value) (w:World) (Q:PQ):Prop:=
 rN π Z (eqOp .eql 86 false true x0 (.pointer none)) w fun t1 w=>
 cV t1 (
 Q (Value.tuple #[]) w) (
 rN π Z (Builtin.len_ #[32] 3 #[x1]) w fun t2 w=>
 rN π Z (convert 3 21 t2) w fun t3 w=>
 CallV π Z 198 #[x0,t3] w fun t4 w=>
 rN π Z (eqOp .eql 284 false true x2 .nilFunc) w fun t5 w=>
 cV t5 (
 Q (Value.tuple #[]) w) (
 rN π Z (Builtin.len_ #[32] 3 #[x1]) w fun t6 w=>
 ∃J_7:Nat→PQ,(∃m,J_7 m (.int .i64 0) w) ∧
 ∀m_7,∀t8:Value,∀w:World,J_7 m_7 t8 w→Env →
 rN π Z (binOp .lss 3 t8 t6) w fun t9 w=>
 cV t9 (
 rN π Z (indexAt 32 x1 t8) w fun t10 w=>
 rN π Z (loadAt 175 t10) w fun t11 w=>
 rN π Z (Instr.alloc 175 true (.tuple #[])) w fun t12 w=>
 rO π Z (storeAt 175 t12 t11) w fun w=>
 rN π Z (loadAt 175 t12) w fun t13 w=>
 runX π Z (callVal x2 #[x0,t13]) w fun t14 w=>
 rN π Z (binOp .add 3 t8 (.int .i64 1)) w fun t15 w=>
 ∃n_7,n_7 < m_7∧J_7 n_7 t15 w) (
 Q (Value.tuple #[]) w)))
def f243.an:An:=(.sq (.q (.c)) (.q (.sq (.q (.c)) (.q (.bl (.lp [19] (.q (.sq (.c) (.sq (.bl (.sq .leaf .leaf)) .leaf)))))))))
theorem f243.calls {Z:PZ} {x0 x1 x2:Value} {w:World} {Q:PQ} (h:f243.sh Z x0 x1 x2 w Q):CallV π Z 243 #[x0,x1,x2] w Q:=
 cl Tryz.func243 f243.an [x0,x1,x2] (by kernel_rfl) (by kernel_rfl) h

def f244.sh (Z:PZ) (x0 x1:Value) (w:World) (Q:PQ):Prop:=
 rN π Z (Instr.box 175 x1) w fun t1 w=>
 rN π Z (fieldAt 175 t1 0) w fun t2 w=>
 rN π Z (loadAt 9 t2) w fun t3 w=>
 CallV π Z 240 #[x0,t3] w fun t4 w=>
 rN π Z (fieldAt 175 t1 1) w fun t5 w=>
 rN π Z (loadAt 9 t5) w fun t6 w=>
 CallV π Z 240 #[x0,t6] w fun t7 w=>
 Q (Value.tuple #[]) w
def f244.an:An:=(.q (.sq .leaf .leaf))
theorem f244.calls {Z:PZ} {x0 x1:Value} {w:World} {Q:PQ} (h:f244.sh Z x0 x1 w Q):CallV π Z 244 #[x0,x1] w Q:=
 cl Tryz.func244 f244.an [x0,x1] (by kernel_rfl) (by kernel_rfl) h

def f245.sh (Z:PZ) (x0 x1 x2:Value) (w:World) (Q:PQ):Prop:=
 rN π Z (eqOp .eql 86 false true x0 (.pointer none)) w fun t1 w=>
 cV t1 (
 Q (Value.tuple #[]) w) (
 rN π Z (Builtin.len_ #[33] 3 #[x1]) w fun t2 w=>
 rN π Z (convert 3 21 t2) w fun t3 w=>
 CallV π Z 198 #[x0,t3] w fun t4 w=>
 rN π Z (eqOp .eql 268 false true x2 .nilFunc) w fun t5 w=>
 cV t5 (
 Q (Value.tuple #[]) w) (
 rN π Z (Builtin.len_ #[33] 3 #[x1]) w fun t6 w=>
 ∃J_7:Nat→PQ,(∃m,J_7 m (.int .i64 0) w) ∧
 ∀m_7,∀t8:Value,∀w:World,J_7 m_7 t8 w→Env →
 rN π Z (binOp .lss 3 t8 t6) w fun t9 w=>
 cV t9 (
 rN π Z (indexAt 33 x1 t8) w fun t10 w=>
 rN π Z (loadAt 35 t10) w fun t11 w=>
 rN π Z (Instr.alloc 35 true (.tuple #[])) w fun t12 w=>
 rO π Z (storeAt 35 t12 t11) w fun w=>
 rN π Z (loadAt 35 t12) w fun t13 w=>
 runX π Z (callVal x2 #[x0,t13]) w fun t14 w=>
 rN π Z (binOp .add 3 t8 (.int .i64 1)) w fun t15 w=>
 ∃n_7,n_7 < m_7∧J_7 n_7 t15 w) (
 Q (Value.tuple #[]) w)))
def f245.an:An:=(.sq (.q (.c)) (.q (.sq (.q (.c)) (.q (.bl (.lp [19] (.q (.sq (.c) (.sq (.bl (.sq .leaf .leaf)) .leaf)))))))))
theorem f245.calls {Z:PZ} {x0 x1 x2:Value} {w:World} {Q:PQ} (h:f245.sh Z x0 x1 x2 w Q):CallV π Z 245 #[x0,x1,x2] w Q:=
 cl Tryz.func245 f245.an [x0,x1,x2] (by kernel_rfl) (by kernel_rfl) h

def f246.sh (Z:PZ) (x0:Value) (w:World) (Q:PQ):Prop:=
 rN π Z (binOp .geq 22 x0 (.int .i8 1)) w fun t1 w=>
 gW (t1) true (fun k=>k (x0) w) (fun t2 w=>
 gW (t1) true (fun k=>rN π Z (binOp .leq 22 t2 (.int .i8 12)) w k) (fun t3 w=>
 rN π Z (pickV t1 t3 (.bool false)) w fun t4 w=>
 Q t4 w) w) w
def f246.an:An:=(.q (.sq .leaf .leaf))
theorem f246.calls {Z:PZ} {x0:Value} {w:World} {Q:PQ} (h:f246.sh Z x0 w Q):CallV π Z 246 #[x0] w Q:=
 cl Tryz.func246 f246.an [x0] (by kernel_rfl) (by kernel_rfl) h

def f247.sh (Z:PZ) (x0 x1:Value) (w:World) (Q:PQ):Prop:=
 CallV π Z 171 #[x0] w fun t1 w=>
 cV t1 (
 runX π Z (nilChk x0) w fun t2 w=>
 rN π Z (fieldAt 239 t2 2) w fun t3 w=>
 rO π Z (storeAt 43 t3 x1) w fun w=>
 Q (Value.tuple #[]) w) (
 Q (Value.tuple #[]) w)
def f247.an:An:=(.q (.c))
theorem f247.calls {Z:PZ} {x0 x1:Value} {w:World} {Q:PQ} (h:f247.sh Z x0 x1 w Q):CallV π Z 247 #[x0,x1] w Q:=
 cl Tryz.func247 f247.an [x0,x1] (by kernel_rfl) (by kernel_rfl) h

def f248.sh (Z:PZ) (x0 x1:Value) (w:World) (Q:PQ):Prop:=
 CallV π Z 199 #[x0,x1] w fun t1 w=>
 rN π Z (convert 30 9 t1) w fun t2 w=>
 Q t2 w
def f248.an:An:=(.q (.sq .leaf .leaf))
theorem f248.calls {Z:PZ} {x0 x1:Value} {w:World} {Q:PQ} (h:f248.sh Z x0 x1 w Q):CallV π Z 248 #[x0,x1] w Q:=
 cl Tryz.func248 f248.an [x0,x1] (by kernel_rfl) (by kernel_rfl) h

def f249.sh (Z:PZ) (x0 x1 x2:Value) (w:World) (Q:PQ):Prop:=
 CallV π Z 222 #[x0] w fun t1 w=>
 CallV π Z 223 #[x0] w fun t2 w=>
 rN π Z (convert 21 3 t2) w fun t3 w=>
 CallV π Z 171 #[x0] w fun t4 w=>
 rN π Z (Op.unary .not t4) w fun t5 w=>
 cV t5 (
 Q (.slice none 0 0) w) (
 rN π Z (binOp .lss 3 t3 (.int .i64 0)) w fun t6 w=>
 gW (t6) false (fun k=>k (t3) w) (fun t7 w=>
 gW (t6) false (fun k=>k (x1) w) (fun t8 w=>
 gW (t6) false (fun k=>rN π Z (binOp .gtr 3 t7 t8) w k) (fun t9 w=>
 rN π Z (pickV t6 (.bool true) t9) w fun t10 w=>
 cV t10 (
 CallV π Z 224 #[x0,t1,(.int .i64 11)] w fun t11 w=>
 Q (.slice none 0 0) w) (
 runX π Z (nilChk x0) w fun t12 w=>
 rN π Z (fieldAt 239 t12 1) w fun t13 w=>
 rN π Z (loadAt 30 t13) w fun t14 w=>
 rN π Z (Builtin.len_ #[30] 3 #[t14]) w fun t15 w=>
 rN π Z (binOp .gtr 3 t3 t15) w fun t16 w=>
 cV t16 (
 CallV π Z 224 #[x0,t1,(.int .i64 10)] w fun t17 w=>
 Q (.slice none 0 0) w) (
 rN π Z (eqOp .eql 288 false true x2 .nilFunc) w fun t18 w=>
 cV t18 (
 rN π Z (Instr.makeSlice 31 t3 t3) w fun t19 w=>
 Q t19 w) (
 ∃J_20:Nat→Value→PQ,(∃m,J_20 m (.slice none 0 0) (.int .i64 0) w) ∧
 ∀m_20,∀t21:Value,∀t22:Value,∀w:World,J_20 m_20 t21 t22 w→Env →
 rN π Z (binOp .lss 3 t22 t3) w fun t23 w=>
 cV t23 (
 runX π Z (callVal x2 #[x0]) w fun t24 w=>
 rN π Z (Instr.alloc 178 true (.tuple #[])) w fun t25 w=>
 rO π Z (storeAt 178 t25 t24) w fun w=>
 CallV π Z 171 #[x0] w fun t26 w=>
 rN π Z (Op.unary .not t26) w fun t27 w=>
 cV t27 (
 Q (.slice none 0 0) w) (
 rN π Z (loadAt 178 t25) w fun t28 w=>
 rN π Z (Instr.buildSlice 31 1 #[(0,t28)]) w fun t29 w=>
 rN π Z (Builtin.append_ #[31,31] 31 #[t21,t29]) w fun t30 w=>
 rN π Z (binOp .add 3 t22 (.int .i64 1)) w fun t31 w=>
 ∃n_20,n_20 < m_20∧J_20 n_20 t30 t31 w)) (
 Q t21 w))))) w) w) w)
def f249.an:An:=(.q (.q (.q (.sq (.q (.cn (.sq .leaf .leaf) .leaf)) (.sq (.bl (.q (.cn (.q (.sq .leaf .leaf)) (.q (.cn (.q (.sq .leaf .leaf)) .leaf))))) (.sq (.q (.cn (.sq .leaf .leaf) .leaf)) (.q (.sq (.q (.bl (.lp [9,46] (.q (.sq (.c) (.sq (.bl (.q (.sq (.q (.cn (.sq .leaf .leaf) .leaf)) .leaf))) .leaf)))))) (.sq .leaf .leaf)))))))))
theorem f249.calls {Z:PZ} {x0 x1 x2:Value} {w:World} {Q:PQ} (h:f249.sh Z x0 x1 x2 w Q):CallV π Z 249 #[x0,x1,x2] w Q:=
 cl Tryz.func249 f249.an [x0,x1,x2] (by kernel_rfl) (by kernel_rfl) h

def f250.sh (Z:PZ) (x0:Value) (w:World) (Q:PQ):Prop:=
 rN π Z (Instr.alloc 178 true (.tuple #[])) w fun t1 w=>
 CallV π Z 77 #[x0] w fun t2 w=>
 CallV π Z 252 #[x0] w fun t3 w=>
 rN π Z (Instr.build 178 #[(0,t2),(1,t3)]) w fun t4 w=>
 rO π Z (storeAt 178 t1 t4) w fun w=>
 ∃r_5,(do loadVar 178 (← asAddr t1):Sem Value).run π w=.ok r_5 w ∧
 Q r_5 w
def f250.an:An:=(.q (.q (.sq .leaf .leaf)))
theorem f250.calls {Z:PZ} {x0:Value} {w:World} {Q:PQ} (h:f250.sh Z x0 w Q):CallV π Z 250 #[x0] w Q:=
 cl Tryz.func250 f250.an [x0] (by kernel_rfl) (by kernel_rfl) h

def f251.sh (Z:PZ) (x0 x1 x2:Value) (w:World) (Q:PQ):Prop:=
 CallV π Z 222 #[x0] w fun t1 w=>
 CallV π Z 223 #[x0] w fun t2 w=>
 rN π Z (convert 21 3 t2) w fun t3 w=>
 CallV π Z 171 #[x0] w fun t4 w=>
 rN π Z (Op.unary .not t4) w fun t5 w=>
 cV t5 (
 Q (.slice none 0 0) w) (
 rN π Z (binOp .lss 3 t3 (.int .i64 0)) w fun t6 w=>
 gW (t6) false (fun k=>k (t3) w) (fun t7 w=>
 gW (t6) false (fun k=>k (x1) w) (fun t8 w=>
 gW (t6) false (fun k=>rN π Z (binOp .gtr 3 t7 t8) w k) (fun t9 w=>
 rN π Z (pickV t6 (.bool true) t9) w fun t10 w=>
 cV t10 (
 CallV π Z 224 #[x0,t1,(.int .i64 11)] w fun t11 w=>
 Q (.slice none 0 0) w) (
 runX π Z (nilChk x0) w fun t12 w=>
 rN π Z (fieldAt 239 t12 1) w fun t13 w=>
 rN π Z (loadAt 30 t13) w fun t14 w=>
 rN π Z (Builtin.len_ #[30] 3 #[t14]) w fun t15 w=>
 rN π Z (binOp .gtr 3 t3 t15) w fun t16 w=>
 cV t16 (
 CallV π Z 224 #[x0,t1,(.int .i64 10)] w fun t17 w=>
 Q (.slice none 0 0) w) (
 rN π Z (eqOp .eql 290 false true x2 .nilFunc) w fun t18 w=>
 cV t18 (
 rN π Z (Instr.makeSlice 32 t3 t3) w fun t19 w=>
 Q t19 w) (
 ∃J_20:Nat→Value→PQ,(∃m,J_20 m (.slice none 0 0) (.int .i64 0) w) ∧
 ∀m_20,∀t21:Value,∀t22:Value,∀w:World,J_20 m_20 t21 t22 w→Env →
 rN π Z (binOp .lss 3 t22 t3) w fun t23 w=>
 cV t23 (
 runX π Z (callVal x2 #[x0]) w fun t24 w=>
 rN π Z (Instr.alloc 175 true (.tuple #[])) w fun t25 w=>
 rO π Z (storeAt 175 t25 t24) w fun w=>
 CallV π Z 171 #[x0] w fun t26 w=>
 rN π Z (Op.unary .not t26) w fun t27 w=>
 cV t27 (
 Q (.slice none 0 0) w) (
 rN π Z (loadAt 175 t25) w fun t28 w=>
 rN π Z (Instr.buildSlice 32 1 #[(0,t28)]) w fun t29 w=>
 rN π Z (Builtin.append_ #[32,32] 32 #[t21,t29]) w fun t30 w=>
 rN π Z (binOp .add 3 t22 (.int .i64 1)) w fun t31 w=>
 ∃n_20,n_20 < m_20∧J_20 n_20 t30 t31 w)) (
 Q t21 w))))) w) w) w)
def f251.an:An:=(.q (.q (.q (.sq (.q (.cn (.sq .leaf .leaf) .leaf)) (.sq (.bl (.q (.cn (.q (.sq .leaf .leaf)) (.q (.cn (.q (.sq .leaf .leaf)) .leaf))))) (.sq (.q (.cn (.sq .leaf .leaf) .leaf)) (.q (.sq (.q (.bl (.lp [9,46] (.q (.sq (.c) (.sq (.bl (.q (.sq (.q (.cn (.sq .leaf .leaf) .leaf)) .leaf))) .leaf)))))) (.sq .leaf .leaf)))))))))
theorem f251.calls {Z:PZ} {x0 x1 x2:Value} {w:World} {Q:PQ} (h:f251.sh Z x0 x1 x2 w Q):CallV π Z 251 #[x0,x1,x2] w Q:=
 cl Tryz.func251 f251.an [x0,x1,x2] (by kernel_rfl) (by kernel_rfl) h

def f252.sh (Z:PZ) (x0:Value) (w:World) (Q:PQ):Prop:=
 rN π Z (Instr.alloc 175 true (.tuple #[])) w fun t1 w=>
 CallV π Z 248 #[x0,(.int .i64 24)] w fun t2 w=>
 CallV π Z 248 #[x0,(.int .i64 24)] w fun t3 w=>
 rN π Z (Instr.build 175 #[(0,t2),(1,t3)]) w fun t4 w=>
 rO π Z (storeAt 175 t1 t4) w fun w=>
 ∃r_5,(do loadVar 175 (← asAddr t1):Sem Value).run π w=.ok r_5 w ∧
 Q r_5 w
def f252.an:An:=(.q (.q (.sq .leaf .leaf)))
theorem f252.calls {Z:PZ} {x0:Value} {w:World} {Q:PQ} (h:f252.sh Z x0 w Q):CallV π Z 252 #[x0] w Q:=
 cl Tryz.func252 f252.an [x0] (by kernel_rfl) (by kernel_rfl) h

def f253.sh (Z:PZ) (x0 x1 x2:Value) (w:World) (Q:PQ):Prop:=
 CallV π Z 222 #[x0] w fun t1 w=>
 CallV π Z 223 #[x0] w fun t2 w=>
 rN π Z (convert 21 3 t2) w fun t3 w=>
 CallV π Z 171 #[x0] w fun t4 w=>
 rN π Z (Op.unary .not t4) w fun t5 w=>
 cV t5 (
 Q (.slice none 0 0) w) (
 rN π Z (binOp .lss 3 t3 (.int .i64 0)) w fun t6 w=>
 gW (t6) false (fun k=>k (t3) w) (fun t7 w=>
 gW (t6) false (fun k=>k (x1) w) (fun t8 w=>
 gW (t6) false (fun k=>rN π Z (binOp .gtr 3 t7 t8) w k) (fun t9 w=>
 rN π Z (pickV t6 (.bool true) t9) w fun t10 w=>
 cV t10 (
 CallV π Z 224 #[x0,t1,(.int .i64 11)] w fun t11 w=>
 Q (.slice none 0 0) w) (
 runX π Z (nilChk x0) w fun t12 w=>
 rN π Z (fieldAt 239 t12 1) w fun t13 w=>
 rN π Z (loadAt 30 t13) w fun t14 w=>
 rN π Z (Builtin.len_ #[30] 3 #[t14]) w fun t15 w=>
 rN π Z (binOp .gtr 3 t3 t15) w fun t16 w=>
 cV t16 (
 CallV π Z 224 #[x0,t1,(.int .i64 10)] w fun t17 w=>
 Q (.slice none 0 0) w) (
 rN π Z (eqOp .eql 269 false true x2 .nilFunc) w fun t18 w=>
 cV t18 (
 rN π Z (Instr.makeSlice 33 t3 t3) w fun t19 w=>
 Q t19 w) (
 ∃J_20:Nat→Value→PQ,(∃m,J_20 m (.slice none 0 0) (.int .i64 0) w) ∧
 ∀m_20,∀t21:Value,∀t22:Value,∀w:World,J_20 m_20 t21 t22 w→Env →
 rN π Z (binOp .lss 3 t22 t3) w fun t23 w=>
 cV t23 (
 runX π Z (callVal x2 #[x0]) w fun t24 w=>
 rN π Z (Instr.alloc 35 true (.tuple #[])) w fun t25 w=>
 rO π Z (storeAt 35 t25 t24) w fun w=>
 CallV π Z 171 #[x0] w fun t26 w=>
 rN π Z (Op.unary .not t26) w fun t27 w=>
 cV t27 (
 Q (.slice none 0 0) w) (
 rN π Z (loadAt 35 t25) w fun t28 w=>
 rN π Z (Instr.buildSlice 33 1 #[(0,t28)]) w fun t29 w=>
 rN π Z (Builtin.append_ #[33,33] 33 #[t21,t29]) w fun t30 w=>
 rN π Z (binOp .add 3 t22 (.int .i64 1)) w fun t31 w=>
 ∃n_20,n_20 < m_20∧J_20 n_20 t30 t31 w)) (
 Q t21 w))))) w) w) w)
def f253.an:An:=(.q (.q (.q (.sq (.q (.cn (.sq .leaf .leaf) .leaf)) (.sq (.bl (.q (.cn (.q (.sq .leaf .leaf)) (.q (.cn (.q (.sq .leaf .leaf)) .leaf))))) (.sq (.q (.cn (.sq .leaf .leaf) .leaf)) (.q (.sq (.q (.bl (.lp [9,46] (.q (.sq (.c) (.sq (.bl (.q (.sq (.q (.cn (.sq .leaf .leaf) .leaf)) .leaf))) .leaf)))))) (.sq .leaf .leaf)))))))))
theorem f253.calls {Z:PZ} {x0 x1 x2:Value} {w:World} {Q:PQ} (h:f253.sh Z x0 x1 x2 w Q):CallV π Z 253 #[x0,x1,x2] w Q:=
 cl Tryz.func253 f253.an [x0,x1,x2] (by kernel_rfl) (by kernel_rfl) h

def f254.sh (Z:PZ) (x0:Value) (w:World) (Q:PQ):Prop:=
 rN π Z (Instr.box 35 x0) w fun t1 w=>
 rN π Z (fieldAt 35 t1 0) w fun t2 w=>
 rN π Z (loadAt 22 t2) w fun t3 w=>
 rN π Z (indexAt 296 (.pointer (some ⟨1,0,none⟩)) t3) w fun t4 w=>
 rN π Z (loadAt 155 t4) w fun t5 w=>
 rN π Z (Instr.alloc 155 true (.tuple #[])) w fun t6 w=>
 rO π Z (storeAt 155 t6 t5) w fun w=>
 rN π Z (Instr.makeFunc (.func 261) #[] #[t6]) w fun t7 w=>
 ∀j_8:World→Prop,(∀w:World,(Env →
 rN π Z (fieldAt 35 t1 3) w fun t9 w=>
 rN π Z (loadAt 31 t9) w fun t10 w=>
 rN π Z (Builtin.len_ #[31] 3 #[t10]) w fun t11 w=>
 ∃J_12:Nat→PQ,(∃m,J_12 m (.int .i64 0) w) ∧
 ∀m_12,∀t13:Value,∀w:World,J_12 m_12 t13 w→Env →
 rN π Z (binOp .lss 3 t13 t11) w fun t14 w=>
 cV t14 (
 rN π Z (indexAt 31 t10 t13) w fun t15 w=>
 rN π Z (loadAt 178 t15) w fun t16 w=>
 rN π Z (Instr.alloc 178 true (.tuple #[])) w fun t17 w=>
 rO π Z (storeAt 178 t17 t16) w fun w=>
 rN π Z (fieldAt 178 t17 1) w fun t18 w=>
 rN π Z (loadAt 175 t18) w fun t19 w=>
 CallV π Z 262 #[t19] w fun t20 w=>
 rN π Z (Op.unary .not t20) w fun t21 w=>
 cV t21 (
 Q (.bool false) w) (
 rN π Z (binOp .add 3 t13 (.int .i64 1)) w fun t22 w=>
 ∃n_12,n_12 < m_12∧J_12 n_12 t22 w)) (
 rN π Z (fieldAt 35 t1 9) w fun t23 w=>
 rN π Z (loadAt 32 t23) w fun t24 w=>
 CallV π Z 263 #[t24,(.func (.func 264) #[] #[])] w fun t25 w=>
 rN π Z (Op.unary .not t25) w fun t26 w=>
 Q t26 w)) →
 j_8 w) →
 ∀j_27:PQ,(∀t28:Value,∀w:World,(Env →
 cV t28 (
 Q (.bool false) w) (
 ∀j_29:PQ,(∀t30:Value,∀w:World,(Env →
 cV t30 (
 Q (.bool false) w) (
 ∀j_31:PQ,(∀t32:Value,∀w:World,(Env →
 cV t32 (
 Q (.bool false) w) (
 ∀j_33:PQ,(∀t34:Value,∀w:World,(Env →
 cV t34 (
 Q (.bool false) w) (
 j_8 w)) →
 j_33 t34 w) →
 rN π Z (fieldAt 35 t1 7) w fun t35 w=>
 rN π Z (loadAt 2 t35) w fun t36 w=>
 rN π Z (binOp .lss 2 t36 (.int .i64 0)) w fun t37 w=>
 cV t37 (
 j_33 t37 w) (
 rN π Z (fieldAt 35 t1 0) w fun t38 w=>
 rN π Z (loadAt 22 t38) w fun t39 w=>
 rN π Z (eqOp .eql 22 false true t39 (.int .i8 8)) w fun t40 w=>
 gW (t40) true (fun k=>rN π Z (fieldAt 35 t1 7) w k) (fun t41 w=>
 gW (t40) true (fun k=>rN π Z (loadAt 2 t41) w k) (fun t42 w=>
 gW (t40) true (fun k=>rN π Z (eqOp .eql 2 false true t42 (.int .i64 0)) w k) (fun t43 w=>
 rN π Z (pickV t40 t43 (.bool false)) w fun t44 w=>
 cV t44 (
 j_33 t44 w) (
 runX π Z (callVal t7 #[(.int .u64 64)]) w fun t45 w=>
 gW (t45) true (fun k=>rN π Z (fieldAt 35 t1 8) w k) (fun t46 w=>
 gW (t45) true (fun k=>rN π Z (loadAt 21 t46) w k) (fun t47 w=>
 gW (t45) true (fun k=>rN π Z (binOp .lss 21 t47 (.int .i32 1)) w k) (fun t48 w=>
 gW (t45) true (fun k=>k (t48) w) (fun t49 w=>
 gW (t49) false (fun k=>rN π Z (fieldAt 35 t1 8) w k) (fun t50 w=>
 gW (t49) false (fun k=>rN π Z (loadAt 21 t50) w k) (fun t51 w=>
 gW (t49) false (fun k=>rN π Z (binOp .gtr 21 t51 (.int .i32 1000)) w k) (fun t52 w=>
 gW (t45) true (fun k=>rN π Z (pickV t49 (.bool true) t52) w k) (fun t53 w=>
 rN π Z (pickV t45 t53 (.bool false)) w fun t54 w=>
 cV t54 (
 j_33 t54 w) (
 runX π Z (callVal t7 #[(.int .u64 256)]) w fun t55 w=>
 gW (t55) true (fun k=>rN π Z (fieldAt 35 t1 10) w k) (fun t56 w=>
 gW (t55) true (fun k=>rN π Z (loadAt 33 t56) w k) (fun t57 w=>
 gW (t55) true (fun k=>rN π Z (Builtin.len_ #[33] 3 #[t57]) w k) (fun t58 w=>
 gW (t55) true (fun k=>rN π Z (eqOp .eql 3 false true t58 (.int .i64 0)) w k) (fun t59 w=>
 rN π Z (pickV t55 t59 (.bool false)) w fun t60 w=>
 j_33 t60 w) w) w) w) w)) w) w) w) w) w) w) w) w)) w) w) w))) →
 j_31 t32 w) →
 rN π Z (fieldAt 35 t1 1) w fun t61 w=>
 rN π Z (loadAt 9 t61) w fun t62 w=>
 rN π Z (Builtin.len_ #[9] 3 #[t62]) w fun t63 w=>
 rN π Z (binOp .gtr 3 t63 (.int .i64 64)) w fun t64 w=>
 cV t64 (
 j_31 t64 w) (
 rN π Z (fieldAt 35 t1 2) w fun t65 w=>
 rN π Z (loadAt 30 t65) w fun t66 w=>
 rN π Z (Builtin.len_ #[30] 3 #[t66]) w fun t67 w=>
 rN π Z (binOp .gtr 3 t67 (.int .i64 96)) w fun t68 w=>
 cV t68 (
 j_31 t68 w) (
 rN π Z (fieldAt 35 t1 3) w fun t69 w=>
 rN π Z (loadAt 31 t69) w fun t70 w=>
 rN π Z (Builtin.len_ #[31] 3 #[t70]) w fun t71 w=>
 rN π Z (binOp .gtr 3 t71 (.int .i64 4)) w fun t72 w=>
 cV t72 (
 j_31 t72 w) (
 rN π Z (fieldAt 35 t1 9) w fun t73 w=>
 rN π Z (loadAt 32 t73) w fun t74 w=>
 rN π Z (Builtin.len_ #[32] 3 #[t74]) w fun t75 w=>
 rN π Z (binOp .gtr 3 t75 (.int .i64 4)) w fun t76 w=>
 cV t76 (
 j_31 t76 w) (
 rN π Z (fieldAt 35 t1 10) w fun t77 w=>
 rN π Z (loadAt 33 t77) w fun t78 w=>
 rN π Z (Builtin.len_ #[33] 3 #[t78]) w fun t79 w=>
 rN π Z (binOp .gtr 3 t79 (.int .i64 8)) w fun t80 w=>
 j_31 t80 w)))))) →
 j_29 t30 w) →
 runX π Z (callVal t7 #[(.int .u64 16)]) w fun t81 w=>
 rN π Z (Op.unary .not t81) w fun t82 w=>
 gW (t82) true (fun k=>rN π Z (fieldAt 35 t1 5) w k) (fun t83 w=>
 gW (t82) true (fun k=>rN π Z (loadAt 4 t83) w k) (fun t84 w=>
 gW (t82) true (fun k=>k (t84) w) (fun t85 w=>
 gW (t85) false (fun k=>rN π Z (fieldAt 35 t1 6) w k) (fun t86 w=>
 gW (t85) false (fun k=>rN π Z (loadAt 4 t86) w k) (fun t87 w=>
 gW (t82) true (fun k=>rN π Z (pickV t85 (.bool true) t87) w k) (fun t88 w=>
 rN π Z (pickV t82 t88 (.bool false)) w fun t89 w=>
 cV t89 (
 j_29 t89 w) (
 runX π Z (callVal t7 #[(.int .u64 32)]) w fun t90 w=>
 rN π Z (Op.unary .not t90) w fun t91 w=>
 gW (t91) true (fun k=>rN π Z (fieldAt 35 t1 7) w k) (fun t92 w=>
 gW (t91) true (fun k=>rN π Z (loadAt 2 t92) w k) (fun t93 w=>
 gW (t91) true (fun k=>rN π Z (eqOp .neq 2 false true t93 (.int .i64 0)) w k) (fun t94 w=>
 rN π Z (pickV t91 t94 (.bool false)) w fun t95 w=>
 cV t95 (
 j_29 t95 w) (
 runX π Z (callVal t7 #[(.int .u64 64)]) w fun t96 w=>
 rN π Z (Op.unary .not t96) w fun t97 w=>
 gW (t97) true (fun k=>rN π Z (fieldAt 35 t1 8) w k) (fun t98 w=>
 gW (t97) true (fun k=>rN π Z (loadAt 21 t98) w k) (fun t99 w=>
 gW (t97) true (fun k=>rN π Z (eqOp .neq 21 false true t99 (.int .i32 0)) w k) (fun t100 w=>
 rN π Z (pickV t97 t100 (.bool false)) w fun t101 w=>
 cV t101 (
 j_29 t101 w) (
 runX π Z (callVal t7 #[(.int .u64 128)]) w fun t102 w=>
 rN π Z (Op.unary .not t102) w fun t103 w=>
 gW (t103) true (fun k=>rN π Z (fieldAt 35 t1 9) w k) (fun t104 w=>
 gW (t103) true (fun k=>rN π Z (loadAt 32 t104) w k) (fun t105 w=>
 gW (t103) true (fun k=>rN π Z (Builtin.len_ #[32] 3 #[t105]) w k) (fun t106 w=>
 gW (t103) true (fun k=>rN π Z (binOp .gtr 3 t106 (.int .i64 0)) w k) (fun t107 w=>
 rN π Z (pickV t103 t107 (.bool false)) w fun t108 w=>
 cV t108 (
 j_29 t108 w) (
 runX π Z (callVal t7 #[(.int .u64 256)]) w fun t109 w=>
 rN π Z (Op.unary .not t109) w fun t110 w=>
 gW (t110) true (fun k=>rN π Z (fieldAt 35 t1 10) w k) (fun t111 w=>
 gW (t110) true (fun k=>rN π Z (loadAt 33 t111) w k) (fun t112 w=>
 gW (t110) true (fun k=>rN π Z (Builtin.len_ #[33] 3 #[t112]) w k) (fun t113 w=>
 gW (t110) true (fun k=>rN π Z (binOp .gtr 3 t113 (.int .i64 0)) w k) (fun t114 w=>
 rN π Z (pickV t110 t114 (.bool false)) w fun t115 w=>
 j_29 t115 w) w) w) w) w)) w) w) w) w)) w) w) w)) w) w) w)) w) w) w) w) w) w)) →
 j_27 t28 w) →
 runX π Z (callVal t7 #[(.int .u64 1)]) w fun t116 w=>
 rN π Z (Op.unary .not t116) w fun t117 w=>
 gW (t117) true (fun k=>rN π Z (fieldAt 35 t1 1) w k) (fun t118 w=>
 gW (t117) true (fun k=>rN π Z (loadAt 9 t118) w k) (fun t119 w=>
 gW (t117) true (fun k=>rN π Z (eqOp .neq 9 false true t119 (.string { data:=#[] })) w k) (fun t120 w=>
 rN π Z (pickV t117 t120 (.bool false)) w fun t121 w=>
 cV t121 (
 j_27 t121 w) (
 runX π Z (callVal t7 #[(.int .u64 2)]) w fun t122 w=>
 rN π Z (Op.unary .not t122) w fun t123 w=>
 gW (t123) true (fun k=>rN π Z (fieldAt 35 t1 2) w k) (fun t124 w=>
 gW (t123) true (fun k=>rN π Z (loadAt 30 t124) w k) (fun t125 w=>
 gW (t123) true (fun k=>rN π Z (Builtin.len_ #[30] 3 #[t125]) w k) (fun t126 w=>
 gW (t123) true (fun k=>rN π Z (binOp .gtr 3 t126 (.int .i64 0)) w k) (fun t127 w=>
 rN π Z (pickV t123 t127 (.bool false)) w fun t128 w=>
 cV t128 (
 j_27 t128 w) (
 runX π Z (callVal t7 #[(.int .u64 4)]) w fun t129 w=>
 rN π Z (Op.unary .not t129) w fun t130 w=>
 gW (t130) true (fun k=>rN π Z (fieldAt 35 t1 3) w k) (fun t131 w=>
 gW (t130) true (fun k=>rN π Z (loadAt 31 t131) w k) (fun t132 w=>
 gW (t130) true (fun k=>rN π Z (Builtin.len_ #[31] 3 #[t132]) w k) (fun t133 w=>
 gW (t130) true (fun k=>rN π Z (binOp .gtr 3 t133 (.int .i64 0)) w k) (fun t134 w=>
 rN π Z (pickV t130 t134 (.bool false)) w fun t135 w=>
 cV t135 (
 j_27 t135 w) (
 runX π Z (callVal t7 #[(.int .u64 8)]) w fun t136 w=>
 rN π Z (Op.unary .not t136) w fun t137 w=>
 gW (t137) true (fun k=>rN π Z (fieldAt 35 t1 4) w k) (fun t138 w=>
 gW (t137) true (fun k=>rN π Z (loadAt 21 t138) w k) (fun t139 w=>
 gW (t137) true (fun k=>rN π Z (eqOp .neq 21 false true t139 (.int .i32 0)) w k) (fun t140 w=>
 rN π Z (pickV t137 t140 (.bool false)) w fun t141 w=>
 j_27 t141 w) w) w) w)) w) w) w) w)) w) w) w) w)) w) w) w
def f254.an:An:=(.q (.q (.q (.sj [] (.bl (.sj [12] (.q (.cn .leaf (.q (.cn .leaf (.q (.c)))))) (.cn (.sq .leaf .leaf) (.sj [47] (.q (.cn .leaf (.q (.cn .leaf (.q (.cn .leaf (.q (.c)))))))) (.cn (.sq .leaf .leaf) (.sj [93] (.q (.cn .leaf (.q (.cn .leaf (.q (.cn .leaf (.q (.c)))))))) (.cn (.sq .leaf .leaf) (.sj [114] (.q (.cn .leaf (.q (.cn .leaf (.q (.c)))))) (.cn (.sq .leaf .leaf) .leaf))))))))) (.sq (.q (.bl (.lp [149] (.q (.sq (.c) (.sq (.bl (.q (.q (.cn (.sq .leaf .leaf) .leaf)))) .leaf)))))) (.sq .leaf .leaf))))))
theorem f254.calls {Z:PZ} {x0:Value} {w:World} {Q:PQ} (h:f254.sh Z x0 w Q):CallV π Z 254 #[x0] w Q:=
 cl Tryz.func254 f254.an [x0] (by kernel_rfl) (by kernel_rfl) h

def f255.sh (Z:PZ) (x0:Value) (w:World) (Q:PQ):Prop:=
 rN π Z (Instr.box 35 x0) w fun t1 w=>
 rN π Z (fieldAt 35 t1 0) w fun t2 w=>
 rN π Z (loadAt 22 t2) w fun t3 w=>
 rN π Z (binOp .geq 22 t3 (.int .i8 1)) w fun t4 w=>
 gW (t4) true (fun k=>rN π Z (fieldAt 35 t1 0) w k) (fun t5 w=>
 gW (t4) true (fun k=>rN π Z (loadAt 22 t5) w k) (fun t6 w=>
 gW (t4) true (fun k=>rN π Z (binOp .leq 22 t6 (.int .i8 5)) w k) (fun t7 w=>
 rN π Z (pickV t4 t7 (.bool false)) w fun t8 w=>
 gW (t8) true (fun k=>rN π Z (fieldAt 35 t1 7) w k) (fun t9 w=>
 gW (t8) true (fun k=>rN π Z (loadAt 2 t9) w k) (fun t10 w=>
 gW (t8) true (fun k=>rN π Z (eqOp .eql 2 false true t10 (.int .i64 0)) w k) (fun t11 w=>
 rN π Z (pickV t8 t11 (.bool false)) w fun t12 w=>
 gW (t12) true (fun k=>rN π Z (fieldAt 35 t1 9) w k) (fun t13 w=>
 gW (t12) true (fun k=>rN π Z (loadAt 32 t13) w k) (fun t14 w=>
 gW (t12) true (fun k=>rN π Z (Builtin.len_ #[32] 3 #[t14]) w k) (fun t15 w=>
 gW (t12) true (fun k=>rN π Z (eqOp .eql 3 false true t15 (.int .i64 0)) w k) (fun t16 w=>
 rN π Z (pickV t12 t16 (.bool false)) w fun t17 w=>
 gW (t17) true (fun k=>rN π Z (loadAt 35 t1) w k) (fun t18 w=>
 gW (t17) true (fun k=>CallV π Z 254 #[t18] w k) (fun t19 w=>
 rN π Z (pickV t17 t19 (.bool false)) w fun t20 w=>
 Q t20 w) w) w) w) w) w) w) w) w) w) w) w) w
def f255.an:An:=(.q (.sq .leaf .leaf))
theorem f255.calls {Z:PZ} {x0:Value} {w:World} {Q:PQ} (h:f255.sh Z x0 w Q):CallV π Z 255 #[x0] w Q:=
 cl Tryz.func255 f255.an [x0] (by kernel_rfl) (by kernel_rfl) h

def f256.sh (Z:PZ) (x0:Value) (w:World) (Q:PQ):Prop:=
 rN π Z (eqOp .neq 23 false false x0 x0) w fun t1 w=>
 Q t1 w
def f256.an:An:=(.q (.sq .leaf .leaf))
theorem f256.calls {Z:PZ} {x0:Value} {w:World} {Q:PQ} (h:f256.sh Z x0 w Q):CallV π Z 256 #[x0] w Q:=
 cl Tryz.func256 f256.an [x0] (by kernel_rfl) (by kernel_rfl) h

def f261.sh (Z:PZ) (x0 x1:Value) (w:World) (Q:PQ):Prop:=
 rN π Z (loadAt 155 x1) w fun t1 w=>
 rN π Z (binOp .and 155 t1 x0) w fun t2 w=>
 rN π Z (eqOp .neq 155 false true t2 (.int .u64 0)) w fun t3 w=>
 Q t3 w
def f261.an:An:=(.q (.sq .leaf .leaf))
theorem f261.calls {Z:PZ} {x0 x1:Value} {w:World} {Q:PQ} (h:f261.sh Z x0 x1 w Q):CallV π Z 261 #[x0,x1] w Q:=
 cl Tryz.func261 f261.an [x0,x1] (by kernel_rfl) (by kernel_rfl) h

def f262.sh (Z:PZ) (x0:Value) (w:World) (Q:PQ):Prop:=
 rN π Z (Instr.box 175 x0) w fun t1 w=>
 rN π Z (fieldAt 175 t1 0) w fun t2 w=>
 rN π Z (loadAt 9 t2) w fun t3 w=>
 rN π Z (Builtin.len_ #[9] 3 #[t3]) w fun t4 w=>
 rN π Z (binOp .leq 3 t4 (.int .i64 24)) w fun t5 w=>
 gW (t5) true (fun k=>rN π Z (fieldAt 175 t1 1) w k) (fun t6 w=>
 gW (t5) true (fun k=>rN π Z (loadAt 9 t6) w k) (fun t7 w=>
 gW (t5) true (fun k=>rN π Z (Builtin.len_ #[9] 3 #[t7]) w k) (fun t8 w=>
 gW (t5) true (fun k=>rN π Z (binOp .leq 3 t8 (.int .i64 24)) w k) (fun t9 w=>
 rN π Z (pickV t5 t9 (.bool false)) w fun t10 w=>
 Q t10 w) w) w) w) w
def f262.an:An:=(.q (.sq .leaf .leaf))
theorem f262.calls {Z:PZ} {x0:Value} {w:World} {Q:PQ} (h:f262.sh Z x0 w Q):CallV π Z 262 #[x0] w Q:=
 cl Tryz.func262 f262.an [x0] (by kernel_rfl) (by kernel_rfl) h

def f263.sh (Z:PZ) (x0 x1:Value) (w:World) (Q:PQ):Prop:=
 CallV π Z 269 #[x0,x1] w fun t1 w=>
 rN π Z (binOp .geq 3 t1 (.int .i64 0)) w fun t2 w=>
 Q t2 w
def f263.an:An:=(.q (.sq .leaf .leaf))
theorem f263.calls {Z:PZ} {x0 x1:Value} {w:World} {Q:PQ} (h:f263.sh Z x0 x1 w Q):CallV π Z 263 #[x0,x1] w Q:=
 cl Tryz.func263 f263.an [x0,x1] (by kernel_rfl) (by kernel_rfl) h

def f264.sh (Z:PZ) (x0:Value) (w:World) (Q:PQ):Prop:=
 rN π Z (Instr.box 175 x0) w fun t1 w=>
 rN π Z (loadAt 175 t1) w fun t2 w=>
 CallV π Z 262 #[t2] w fun t3 w=>
 rN π Z (Op.unary .not t3) w fun t4 w=>
 Q t4 w
def f264.an:An:=(.q (.sq .leaf .leaf))
theorem f264.calls {Z:PZ} {x0:Value} {w:World} {Q:PQ} (h:f264.sh Z x0 w Q):CallV π Z 264 #[x0] w Q:=
 cl Tryz.func264 f264.an [x0] (by kernel_rfl) (by kernel_rfl) h

def f269.sh (Z:PZ) (x0 x1:Value) (w:World) (Q:PQ):Prop:=
 rN π Z (Builtin.len_ #[32] 3 #[x0]) w fun t1 w=>
 ∃J_2:Nat→PQ,(∃m,J_2 m (.int .i64 0) w) ∧
 ∀m_2,∀t3:Value,∀w:World,J_2 m_2 t3 w→Env →
 rN π Z (binOp .lss 3 t3 t1) w fun t4 w=>
 cV t4 (
 rN π Z (indexAt 32 x0 t3) w fun t5 w=>
 rN π Z (loadAt 175 t5) w fun t6 w=>
 runX π Z (callVal x1 #[t6]) w fun t7 w=>
 cV t7 (
 Q t3 w) (
 rN π Z (binOp .add 3 t3 (.int .i64 1)) w fun t8 w=>
 ∃n_2,n_2 < m_2∧J_2 n_2 t8 w)) (
 Q (.int .i64 (-1)) w)
def f269.an:An:=(.q (.sq (.q (.bl (.lp [8] (.q (.sq (.c) (.sq (.bl (.q (.q (.cn (.sq .leaf .leaf) .leaf)))) .leaf)))))) (.sq .leaf .leaf)))
theorem f269.calls {Z:PZ} {x0 x1:Value} {w:World} {Q:PQ} (h:f269.sh Z x0 x1 w Q):CallV π Z 269 #[x0,x1] w Q:=
 cl Tryz.func269 f269.an [x0,x1] (by kernel_rfl) (by kernel_rfl) h

