import Derived.Test.YtfijkedmbaghmaaGreatDoorShBase
set_option linter.unusedVariables false
namespace Go.Proofs.YtfijkedmbaghmaaGreatDoor
open Go.Sh
open Go.Instr (loadAt storeAt fieldAt indexAt extract)
open Tryz renaming prog → π
def f135.sh (Z:PZ) (x0:Value) (w:World) (Q:PQ):Prop:=
 rN π Z (Builtin.len_ #[32] 3 #[x0]) w fun t1 w=>
 rN π Z (binOp .add 3 t1 (.int .i64 64)) w fun t2 w=>
 rN π Z (Instr.sliceAt 32 x0 none (some t2) none) w fun t3 w=>
 rN π Z (Builtin.len_ #[32] 3 #[x0]) w fun t4 w=>
 ∃J_5:Nat→PQ,(∃m,J_5 m t4 w) ∧
 ∀m_5,∀t6:Value,∀w:World,J_5 m_5 t6 w→Env →
 rN π Z (Builtin.len_ #[32] 3 #[t3]) w fun t7 w=>
 rN π Z (binOp .lss 3 t6 t7) w fun t8 w=>
 cV t8 (
 Drawn w fun w=>
 pU π (indexAt 32 t3 t6) fun t9=>
 pU π (fieldAt 175 t9 1) fun t10=>
 rD π (loadAt 9 t10) w fun t11=>
 pU π (binOp .sub 3 (.int .i64 (-3000000)) t6) fun t12=>
 CallV π Z 143 #[t12] w fun t13 w=>
 Still π (nx (loadAt 9 t10)) t11 w <|
 pU π (eqOp .eql 9 false false t11 t13) fun t14=>
 pU π (Op.unary .not t14) fun t15=>
 cV t15 (
 Q (.bool false) w) (
 rN π Z (binOp .add 3 t6 (.int .i64 1)) w fun t16 w=>
 ∃n_5,n_5 < m_5∧J_5 n_5 t16 w)) (
 Q (.bool true) w)
def f135.an:An:=(.q (.q (.sq (.q (.bl (.lp [4] (.sq (.q (.c)) (.sq (.bl (.sq (.dr (pl [0,4,8,12,17,20,24,30,32,36] .fin)) (.cn (.sq .leaf .leaf) .leaf))) .leaf))))) (.sq .leaf .leaf))))
theorem f135.calls {Z:PZ} {x0:Value} {w:World} {Q:PQ} (h:f135.sh Z x0 w Q):CallV π Z 135 #[x0] w Q:=
 cl Tryz.func135 f135.an [x0] (by kernel_rfl) (by kernel_rfl) h

def f136.sh (Z:PZ) (x0:Value) (w:World) (Q:PQ):Prop:=
 rN π Z (Builtin.len_ #[33] 3 #[x0]) w fun t1 w=>
 rN π Z (binOp .add 3 t1 (.int .i64 64)) w fun t2 w=>
 rN π Z (Instr.sliceAt 33 x0 none (some t2) none) w fun t3 w=>
 rN π Z (Builtin.len_ #[33] 3 #[x0]) w fun t4 w=>
 ∃J_5:Nat→PQ,(∃m,J_5 m t4 w) ∧
 ∀m_5,∀t6:Value,∀w:World,J_5 m_5 t6 w→Env →
 rN π Z (Builtin.len_ #[33] 3 #[t3]) w fun t7 w=>
 rN π Z (binOp .lss 3 t6 t7) w fun t8 w=>
 cV t8 (
 rN π Z (indexAt 33 t3 t6) w fun t9 w=>
 rN π Z (fieldAt 35 t9 7) w fun t10 w=>
 rN π Z (loadAt 2 t10) w fun t11 w=>
 rN π Z (binOp .sub 3 (.int .i64 (-3000000)) t6) w fun t12 w=>
 rN π Z (eqOp .eql 2 false false t11 t12) w fun t13 w=>
 rN π Z (Op.unary .not t13) w fun t14 w=>
 cV t14 (
 Q (.bool false) w) (
 rN π Z (binOp .add 3 t6 (.int .i64 1)) w fun t15 w=>
 ∃n_5,n_5 < m_5∧J_5 n_5 t15 w)) (
 ∃J_16:Nat→PQ,(∃m,J_16 m (.int .i64 0) w) ∧
 ∀m_16,∀t17:Value,∀w:World,J_16 m_16 t17 w→Env →
 rN π Z (Builtin.len_ #[33] 3 #[x0]) w fun t18 w=>
 rN π Z (binOp .lss 3 t17 t18) w fun t19 w=>
 cV t19 (
 rN π Z (indexAt 33 x0 t17) w fun t20 w=>
 rN π Z (loadAt 35 t20) w fun t21 w=>
 CallV π Z 45 #[t21] w fun t22 w=>
 rN π Z (Op.unary .not t22) w fun t23 w=>
 cV t23 (
 Q (.bool false) w) (
 rN π Z (binOp .add 3 t17 (.int .i64 1)) w fun t24 w=>
 ∃n_16,n_16 < m_16∧J_16 n_16 t24 w)) (
 Q (.bool true) w))
def f136.an:An:=(.q (.q (.sq (.q (.bl (.lp [4] (.sq (.q (.c)) (.sq (.bl (.q (.cn (.sq .leaf .leaf) .leaf))) .leaf))))) (.sq (.q (.bl (.lp [5] (.sq (.q (.c)) (.sq (.bl (.q (.q (.cn (.sq .leaf .leaf) .leaf)))) .leaf))))) (.sq .leaf .leaf)))))
theorem f136.calls {Z:PZ} {x0:Value} {w:World} {Q:PQ} (h:f136.sh Z x0 w Q):CallV π Z 136 #[x0] w Q:=
 cl Tryz.func136 f136.an [x0] (by kernel_rfl) (by kernel_rfl) h

def f137.sh (Z:PZ) (x0:Value) (w:World) (Q:PQ):Prop:=
 rN π Z (Instr.box 35 x0) w fun t1 w=>
 rN π Z (Instr.alloc 35 true (.tuple #[])) w fun t2 w=>
 rN π Z (loadAt 35 t1) w fun t3 w=>
 rN π Z (Instr.alloc 35 true (.tuple #[])) w fun t4 w=>
 rO π Z (storeAt 35 t4 t3) w fun w=>
 rN π Z (fieldAt 35 t1 2) w fun t5 w=>
 rN π Z (loadAt 30 t5) w fun t6 w=>
 CallV π Z 24 #[t6] w fun t7 w=>
 rN π Z (fieldAt 35 t4 2) w fun t8 w=>
 rO π Z (storeAt 30 t8 t7) w fun w=>
 rN π Z (fieldAt 35 t1 3) w fun t9 w=>
 rN π Z (loadAt 31 t9) w fun t10 w=>
 CallV π Z 204 #[t10] w fun t11 w=>
 rN π Z (fieldAt 35 t4 3) w fun t12 w=>
 rO π Z (storeAt 31 t12 t11) w fun w=>
 rN π Z (fieldAt 35 t1 9) w fun t13 w=>
 rN π Z (loadAt 32 t13) w fun t14 w=>
 CallV π Z 205 #[t14] w fun t15 w=>
 rN π Z (fieldAt 35 t4 9) w fun t16 w=>
 rO π Z (storeAt 32 t16 t15) w fun w=>
 rN π Z (fieldAt 35 t4 10) w fun t17 w=>
 rO π Z (storeAt 33 t17 (.slice none 0 0)) w fun w=>
 ∃J_18:Nat→PQ,(∃m,J_18 m (.int .i64 0) w) ∧
 ∀m_18,∀t19:Value,∀w:World,J_18 m_18 t19 w→Env →
 rN π Z (fieldAt 35 t1 10) w fun t20 w=>
 rN π Z (loadAt 33 t20) w fun t21 w=>
 rN π Z (Builtin.len_ #[33] 3 #[t21]) w fun t22 w=>
 rN π Z (binOp .lss 3 t19 t22) w fun t23 w=>
 cV t23 (
 Drawn w fun w=>
 pU π (fieldAt 35 t4 10) fun t24=>
 rD π (loadAt 33 t24) w fun t25=>
 pU π (fieldAt 35 t1 10) fun t26=>
 rD π (loadAt 33 t26) w fun t27=>
 pU π (indexAt 33 t27 t19) fun t28=>
 rD π (loadAt 35 t28) w fun t29=>
 CallV π Z 137 #[t29] w fun t30 w=>
 Still π (nx (loadAt 33 t26)) t27 w <|
 Still π (nx (loadAt 33 t24)) t25 w <|
 rN π Z (Instr.buildSlice 33 1 #[(0,t30)]) w fun t31 w=>
 Still π (nx (loadAt 33 t26)) t27 w <|
 Still π (nx (loadAt 33 t24)) t25 w <|
 rN π Z (Builtin.append_ #[33,33] 33 #[t25,t31]) w fun t32 w=>
 Still π (nx (loadAt 33 t26)) t27 w <|
 pU π (fieldAt 35 t4 10) fun t33=>
 rO π Z (storeAt 33 t33 t32) w fun w=>
 rN π Z (binOp .add 3 t19 (.int .i64 1)) w fun t34 w=>
 ∃n_18,n_18 < m_18∧J_18 n_18 t34 w) (
 rN π Z (loadAt 35 t4) w fun t35 w=>
 rO π Z (storeAt 35 t2 t35) w fun w=>
 ∃r_36,(do loadVar 35 (← asAddr t2):Sem Value).run π w=.ok r_36 w ∧
 Q r_36 w)
def f137.an:An:=(.q (.q (.q (.q (.q (.q (.sq (.q (.bl (.lp [4] (.sq (.q (.c)) (.sq (.bl (.dr (pl [0,5,8,13,16,20,25,30,34,38,40,46] .fin))) .leaf))))) (.sq .leaf .leaf))))))))
theorem f137.calls {Z:PZ} {x0:Value} {w:World} {Q:PQ} (h:f137.sh Z x0 w Q):CallV π Z 137 #[x0] w Q:=
 cl Tryz.func137 f137.an [x0] (by kernel_rfl) (by kernel_rfl) h

def f138.sh (Z:PZ) (x0 x1:Value) (w:World) (Q:PQ):Prop:=
 runX π Z (nilChk x0) w fun t1 w=>
 rN π Z (fieldAt 72 t1 5) w fun t2 w=>
 rN π Z (loadAt 55 t2) w fun t3 w=>
 rN π Z (Builtin.len_ #[55] 3 #[t3]) w fun t4 w=>
 rN π Z (binOp .lss 3 t4 (.int .i64 600)) w fun t5 w=>
 cV t5 (
 runX π Z (nilChk x0) w fun t6 w=>
 rN π Z (fieldAt 72 t6 5) w fun t7 w=>
 rN π Z (loadAt 55 t7) w fun t8 w=>
 rN π Z (Instr.buildSlice 55 1 #[(0,x1)]) w fun t9 w=>
 rN π Z (Builtin.append_ #[55,55] 55 #[t8,t9]) w fun t10 w=>
 runX π Z (nilChk x0) w fun t11 w=>
 rN π Z (fieldAt 72 t11 5) w fun t12 w=>
 rO π Z (storeAt 55 t12 t10) w fun w=>
 Q (Value.tuple #[]) w) (
 Q (Value.tuple #[]) w)
def f138.an:An:=(.q (.c))
theorem f138.calls {Z:PZ} {x0 x1:Value} {w:World} {Q:PQ} (h:f138.sh Z x0 x1 w Q):CallV π Z 138 #[x0,x1] w Q:=
 cl Tryz.func138 f138.an [x0,x1] (by kernel_rfl) (by kernel_rfl) h

def f139.sh (Z:PZ) (x0 x1:Value) (w:World) (Q:PQ):Prop:=
 runX π Z (nilChk x0) w fun t1 w=>
 rN π Z (fieldAt 72 t1 4) w fun t2 w=>
 rN π Z (loadAt 54 t2) w fun t3 w=>
 rN π Z (Builtin.len_ #[54] 3 #[t3]) w fun t4 w=>
 rN π Z (binOp .lss 3 t4 (.int .i64 600)) w fun t5 w=>
 cV t5 (
 runX π Z (nilChk x0) w fun t6 w=>
 rN π Z (fieldAt 72 t6 4) w fun t7 w=>
 rN π Z (loadAt 54 t7) w fun t8 w=>
 rN π Z (Instr.buildSlice 54 1 #[(0,x1)]) w fun t9 w=>
 rN π Z (Builtin.append_ #[54,54] 54 #[t8,t9]) w fun t10 w=>
 runX π Z (nilChk x0) w fun t11 w=>
 rN π Z (fieldAt 72 t11 4) w fun t12 w=>
 rO π Z (storeAt 54 t12 t10) w fun w=>
 Q (Value.tuple #[]) w) (
 Q (Value.tuple #[]) w)
def f139.an:An:=(.q (.c))
theorem f139.calls {Z:PZ} {x0 x1:Value} {w:World} {Q:PQ} (h:f139.sh Z x0 x1 w Q):CallV π Z 139 #[x0,x1] w Q:=
 cl Tryz.func139 f139.an [x0,x1] (by kernel_rfl) (by kernel_rfl) h

def f140.sh (Z:PZ) (x0 x1:Value) (w:World) (Q:PQ):Prop:=
 ∀j_1:World→Prop,(∀w:World,(Env →
 ∃J_2:Nat→PQ,(∃m,J_2 m (.int .i64 0) w) ∧
 ∀m_2,∀t3:Value,∀w:World,J_2 m_2 t3 w→Env →
 rN π Z (Builtin.len_ #[33] 3 #[x1]) w fun t4 w=>
 rN π Z (binOp .lss 3 t3 t4) w fun t5 w=>
 gW (t5) true (fun k=>k (t3) w) (fun t6 w=>
 gW (t5) true (fun k=>rN π Z (binOp .lss 3 t6 (.int .i64 600)) w k) (fun t7 w=>
 rN π Z (pickV t5 t7 (.bool false)) w fun t8 w=>
 cV t8 (
 rN π Z (indexAt 33 x1 t3) w fun t9 w=>
 rN π Z (loadAt 35 t9) w fun t10 w=>
 CallV π Z 47 #[x0,t10] w fun t11 w=>
 rN π Z (binOp .add 3 t3 (.int .i64 1)) w fun t12 w=>
 ∃n_2,n_2 < m_2∧J_2 n_2 t12 w) (
 Q (Value.tuple #[]) w)) w) w) →
 j_1 w) →
 runX π Z (nilChk x0) w fun t13 w=>
 rN π Z (fieldAt 72 t13 6) w fun t14 w=>
 rN π Z (loadAt 56 t14) w fun t15 w=>
 rN π Z (Builtin.len_ #[56] 3 #[t15]) w fun t16 w=>
 rN π Z (binOp .lss 3 t16 (.int .i64 600)) w fun t17 w=>
 cV t17 (
 runX π Z (nilChk x0) w fun t18 w=>
 rN π Z (fieldAt 72 t18 6) w fun t19 w=>
 rN π Z (loadAt 56 t19) w fun t20 w=>
 rN π Z (Instr.buildSlice 56 1 #[(0,x1)]) w fun t21 w=>
 rN π Z (Builtin.append_ #[56,56] 56 #[t20,t21]) w fun t22 w=>
 runX π Z (nilChk x0) w fun t23 w=>
 rN π Z (fieldAt 72 t23 6) w fun t24 w=>
 rO π Z (storeAt 56 t24 t22) w fun w=>
 j_1 w) (
 j_1 w)
def f140.an:An:=(.sj [] (.q (.c)) (.q (.bl (.lp [4] (.sq (.q (.c)) (.sq (.bl .leaf) .leaf))))))
theorem f140.calls {Z:PZ} {x0 x1:Value} {w:World} {Q:PQ} (h:f140.sh Z x0 x1 w Q):CallV π Z 140 #[x0,x1] w Q:=
 cl Tryz.func140 f140.an [x0,x1] (by kernel_rfl) (by kernel_rfl) h

def f141.sh (Z:PZ) (x0 x1 x2:Value) (w:World) (Q:PQ):Prop:=
 ∃J_1:Nat→Value→PQ,(∃m,J_1 m (.slice none 0 0) (.int .i64 0) w) ∧
 ∀m_1,∀t2:Value,∀t3:Value,∀w:World,J_1 m_1 t2 t3 w→Env →
 rN π Z (Builtin.len_ #[50] 3 #[x0]) w fun t4 w=>
 rN π Z (binOp .lss 3 t3 t4) w fun t5 w=>
 cV t5 (
 rN π Z (indexAt 50 x0 t3) w fun t6 w=>
 rN π Z (loadAt 30 t6) w fun t7 w=>
 ∃J_8:Nat→Value→PQ,(∃m,J_8 m t7 (.int .i64 0) w) ∧
 ∀m_8,∀t9:Value,∀t10:Value,∀w:World,J_8 m_8 t9 t10 w→Env →
 rN π Z (binOp .lss 3 t10 x2) w fun t11 w=>
 cV t11 (
 rN π Z (binOp .quo 3 t3 x1) w fun t12 w=>
 rN π Z (binOp .rem 3 t12 (.int .i64 100)) w fun t13 w=>
 rN π Z (binOp .add 3 (.int .i64 100) t13) w fun t14 w=>
 rN π Z (convert 3 5 t14) w fun t15 w=>
 rN π Z (Instr.buildSlice 30 1 #[(0,t15)]) w fun t16 w=>
 rN π Z (Builtin.append_ #[30,30] 30 #[t9,t16]) w fun t17 w=>
 rN π Z (binOp .add 3 t10 (.int .i64 1)) w fun t18 w=>
 ∃n_8,n_8 < m_8∧J_8 n_8 t17 t18 w) (
 rN π Z (Instr.buildSlice 50 1 #[(0,t9)]) w fun t19 w=>
 rN π Z (Builtin.append_ #[50,50] 50 #[t2,t19]) w fun t20 w=>
 rN π Z (binOp .add 3 t3 (.int .i64 1)) w fun t21 w=>
 ∃n_1,n_1 < m_1∧J_1 n_1 t20 t21 w)) (
 ∃J_22:Nat→PQ,(∃m,J_22 m (.int .i64 0) w) ∧
 ∀m_22,∀t23:Value,∀w:World,J_22 m_22 t23 w→Env →
 rN π Z (Builtin.len_ #[50] 3 #[x0]) w fun t24 w=>
 rN π Z (binOp .lss 3 t23 t24) w fun t25 w=>
 cV t25 (
 rN π Z (indexAt 50 x0 t23) w fun t26 w=>
 rN π Z (loadAt 30 t26) w fun t27 w=>
 rN π Z (Builtin.len_ #[30] 3 #[t27]) w fun t28 w=>
 ∃J_29:Nat→PQ,(∃m,J_29 m (.int .i64 0) w) ∧
 ∀m_29,∀t30:Value,∀w:World,J_29 m_29 t30 w→Env →
 rN π Z (binOp .add 3 t28 x2) w fun t31 w=>
 rN π Z (binOp .lss 3 t30 t31) w fun t32 w=>
 cV t32 (
 Drawn w fun w=>
 pU π (binOp .lss 3 t30 t28) fun t33=>
 guardV (t33) true (fun k=>k (x0)) (fun t34=>
 guardV (t33) true (fun k=>k (t23)) (fun t35=>
 guardV (t33) true (fun k=>pU π (indexAt 50 t34 t35) k) (fun t36=>
 guardV (t33) true (fun k=>rD π (loadAt 30 t36) w k) (fun t37=>
 guardV (t33) true (fun k=>k (t30)) (fun t38=>
 guardV (t33) true (fun k=>pU π (indexAt 30 t37 t38) k) (fun t39=>
 guardV (t33) true (fun k=>rD π (loadAt 5 t39) w k) (fun t40=>
 guardV (t33) true (fun k=>k (t23)) (fun t41=>
 guardV (t33) true (fun k=>k (x1)) (fun t42=>
 guardV (t33) true (fun k=>pU π (binOp .quo 3 t41 t42) k) (fun t43=>
 guardV (t33) true (fun k=>pU π (binOp .rem 3 t43 (.int .i64 100)) k) (fun t44=>
 guardV (t33) true (fun k=>pU π (convert 3 5 t44) k) (fun t45=>
 guardV (t33) true (fun k=>pU π (eqOp .neq 5 false false t40 t45) k) (fun t46=>
 guardV (t33) true (fun k=>k (t46)) (fun t47=>
 guardV (t47) false (fun k=>k (t2)) (fun t48=>
 guardV (t47) false (fun k=>k (t23)) (fun t49=>
 guardV (t47) false (fun k=>pU π (indexAt 50 t48 t49) k) (fun t50=>
 guardV (t47) false (fun k=>rD π (loadAt 30 t50) w k) (fun t51=>
 guardV (t47) false (fun k=>k (t30)) (fun t52=>
 guardV (t47) false (fun k=>pU π (indexAt 30 t51 t52) k) (fun t53=>
 guardV (t47) false (fun k=>rD π (loadAt 5 t53) w k) (fun t54=>
 guardV (t47) false (fun k=>k (t23)) (fun t55=>
 guardV (t47) false (fun k=>k (x1)) (fun t56=>
 guardV (t47) false (fun k=>pU π (binOp .quo 3 t55 t56) k) (fun t57=>
 guardV (t47) false (fun k=>pU π (binOp .rem 3 t57 (.int .i64 100)) k) (fun t58=>
 guardV (t47) false (fun k=>pU π (convert 3 5 t58) k) (fun t59=>
 guardV (t47) false (fun k=>pU π (eqOp .neq 5 false false t54 t59) k) (fun t60=>
 guardV (t33) true (fun k=>pU π (pickV t47 (.bool true) t60) k) (fun t61=>
 pU π (pickV t33 t61 (.bool false)) fun t62=>
 guardV (t62) false (fun k=>k (t30)) (fun t63=>
 guardV (t62) false (fun k=>k (t28)) (fun t64=>
 guardV (t62) false (fun k=>pU π (binOp .geq 3 t63 t64) k) (fun t65=>
 guardV (t62) false (fun k=>k (t65)) (fun t66=>
 guardV (t66) true (fun k=>k (t2)) (fun t67=>
 guardV (t66) true (fun k=>k (t23)) (fun t68=>
 guardV (t66) true (fun k=>pU π (indexAt 50 t67 t68) k) (fun t69=>
 guardV (t66) true (fun k=>rD π (loadAt 30 t69) w k) (fun t70=>
 guardV (t66) true (fun k=>k (t30)) (fun t71=>
 guardV (t66) true (fun k=>pU π (indexAt 30 t70 t71) k) (fun t72=>
 guardV (t66) true (fun k=>rD π (loadAt 5 t72) w k) (fun t73=>
 guardV (t66) true (fun k=>k (t23)) (fun t74=>
 guardV (t66) true (fun k=>k (x1)) (fun t75=>
 guardV (t66) true (fun k=>pU π (binOp .quo 3 t74 t75) k) (fun t76=>
 guardV (t66) true (fun k=>pU π (binOp .rem 3 t76 (.int .i64 100)) k) (fun t77=>
 guardV (t66) true (fun k=>pU π (binOp .add 3 (.int .i64 100) t77) k) (fun t78=>
 guardV (t66) true (fun k=>pU π (convert 3 5 t78) k) (fun t79=>
 guardV (t66) true (fun k=>pU π (eqOp .neq 5 false false t73 t79) k) (fun t80=>
 guardV (t62) false (fun k=>pU π (pickV t66 t80 (.bool false)) k) (fun t81=>
 pU π (pickV t62 (.bool true) t81) fun t82=>
 cV t82 (
 Q (.bool false) w) (
 rN π Z (binOp .add 3 t30 (.int .i64 1)) w fun t83 w=>
 ∃n_29,n_29 < m_29∧J_29 n_29 t83 w))))))))))))))))))))))))))))))))))))))))))))))))) (
 rN π Z (binOp .add 3 t23 (.int .i64 1)) w fun t84 w=>
 ∃n_22,n_22 < m_22∧J_22 n_22 t84 w)) (
 Q (.bool true) w))
def f141.an:An:=(.q (.q (.sq (.q (.bl (.lp [7,8] (.sq (.q (.c)) (.sq (.bl (.q (.sq (.q (.bl (.lp [9,10] (.sq (.q (.c)) (.sq (.bl .leaf) .leaf))))) .leaf))) .leaf))))) (.sq (.q (.bl (.lp [11] (.sq (.q (.c)) (.sq (.bl (.q (.q (.bl (.lp [13] (.sq (.q (.c)) (.sq (.bl (.sq (.dr (pl [0,4,8,12,16,20,24,29,32,36,41,44,48,52,56,60,64,68,72,76,80,85,88,92,97,100,104,108,112,116,120,124,128,132,136,140,144,148,152,156,160,165,168,172,177,180,184,188,192,196,200,204,208,212] .fin)) (.cn (.sq .leaf .leaf) .leaf))) .leaf))))))) .leaf))))) (.sq .leaf .leaf)))))
theorem f141.calls {Z:PZ} {x0 x1 x2:Value} {w:World} {Q:PQ} (h:f141.sh Z x0 x1 x2 w Q):CallV π Z 141 #[x0,x1,x2] w Q:=
 cl Tryz.func141 f141.an [x0,x1,x2] (by kernel_rfl) (by kernel_rfl) h

def f142.sh (Z:PZ) (x0 x1:Value) (w:World) (Q:PQ):Prop:=
 ∃J_1:Nat→Value→PQ,(∃m,J_1 m (.slice none 0 0) (.int .i64 0) w) ∧
 ∀m_1,∀t2:Value,∀t3:Value,∀w:World,J_1 m_1 t2 t3 w→Env →
 rN π Z (Builtin.len_ #[51] 3 #[x0]) w fun t4 w=>
 rN π Z (binOp .lss 3 t3 t4) w fun t5 w=>
 cV t5 (
 False) (
 ∃J_6:Nat→PQ,(∃m,J_6 m (.int .i64 0) w) ∧
 ∀m_6,∀t7:Value,∀w:World,J_6 m_6 t7 w→Env →
 rN π Z (Builtin.len_ #[51] 3 #[x0]) w fun t8 w=>
 rN π Z (binOp .lss 3 t7 t8) w fun t9 w=>
 cV t9 (
 False) (
 Q (.bool true) w))
def f142.an:An:=(.q (.q (.sq (.q (.bl (.lp [5,6] (.sq (.q (.c)) .leaf)))) (.sq (.q (.bl (.lp [9] (.sq (.q (.c)) .leaf)))) (.sq .leaf .leaf)))))
theorem f142.calls {Z:PZ} {x0 x1:Value} {w:World} {Q:PQ} (h:f142.sh Z x0 x1 w Q):CallV π Z 142 #[x0,x1] w Q:=
 cl Tryz.func142 f142.an [x0,x1] (by kernel_rfl) (by kernel_rfl) h

def f143.sh (Z:PZ) (x0:Value) (w:World) (Q:PQ):Prop:=
 CallV π Z 206 #[x0] w fun t1 w=>
 rN π Z (binOp .add 9 (.string { data:=#[33] }) t1) w fun t2 w=>
 Q t2 w
def f143.an:An:=(.q (.sq .leaf .leaf))
theorem f143.calls {Z:PZ} {x0:Value} {w:World} {Q:PQ} (h:f143.sh Z x0 w Q):CallV π Z 143 #[x0] w Q:=
 cl Tryz.func143 f143.an [x0] (by kernel_rfl) (by kernel_rfl) h

def f144.sh (Z:PZ) (x0 x1:Value) (w:World) (Q:PQ):Prop:=
 ∃J_1:Nat→Value→PQ,(∃m,J_1 m (.slice none 0 0) (.int .i64 0) w) ∧
 ∀m_1,∀t2:Value,∀t3:Value,∀w:World,J_1 m_1 t2 t3 w→Env →
 rN π Z (Builtin.len_ #[52] 3 #[x0]) w fun t4 w=>
 rN π Z (binOp .lss 3 t3 t4) w fun t5 w=>
 cV t5 (
 False) (
 ∃J_6:Nat→PQ,(∃m,J_6 m (.int .i64 0) w) ∧
 ∀m_6,∀t7:Value,∀w:World,J_6 m_6 t7 w→Env →
 rN π Z (Builtin.len_ #[52] 3 #[x0]) w fun t8 w=>
 rN π Z (binOp .lss 3 t7 t8) w fun t9 w=>
 cV t9 (
 False) (
 Q (.bool true) w))
def f144.an:An:=(.q (.q (.sq (.q (.bl (.lp [5,6] (.sq (.q (.c)) .leaf)))) (.sq (.q (.bl (.lp [9] (.sq (.q (.c)) .leaf)))) (.sq .leaf .leaf)))))
theorem f144.calls {Z:PZ} {x0 x1:Value} {w:World} {Q:PQ} (h:f144.sh Z x0 x1 w Q):CallV π Z 144 #[x0,x1] w Q:=
 cl Tryz.func144 f144.an [x0,x1] (by kernel_rfl) (by kernel_rfl) h

def f145.sh (Z:PZ) (x0 x1:Value) (w:World) (Q:PQ):Prop:=
 ∃J_1:Nat→Value→PQ,(∃m,J_1 m (.slice none 0 0) (.int .i64 0) w) ∧
 ∀m_1,∀t2:Value,∀t3:Value,∀w:World,J_1 m_1 t2 t3 w→Env →
 rN π Z (Builtin.len_ #[53] 3 #[x0]) w fun t4 w=>
 rN π Z (binOp .lss 3 t3 t4) w fun t5 w=>
 cV t5 (
 False) (
 ∃J_6:Nat→PQ,(∃m,J_6 m (.int .i64 0) w) ∧
 ∀m_6,∀t7:Value,∀w:World,J_6 m_6 t7 w→Env →
 rN π Z (Builtin.len_ #[53] 3 #[x0]) w fun t8 w=>
 rN π Z (binOp .lss 3 t7 t8) w fun t9 w=>
 cV t9 (
 False) (
 Q (.bool true) w))
def f145.an:An:=(.q (.q (.sq (.q (.bl (.lp [5,6] (.sq (.q (.c)) .leaf)))) (.sq (.q (.bl (.lp [9] (.sq (.q (.c)) .leaf)))) (.sq .leaf .leaf)))))
theorem f145.calls {Z:PZ} {x0 x1:Value} {w:World} {Q:PQ} (h:f145.sh Z x0 x1 w Q):CallV π Z 145 #[x0,x1] w Q:=
 cl Tryz.func145 f145.an [x0,x1] (by kernel_rfl) (by kernel_rfl) h

def f146.sh (Z:PZ) (x0 x1:Value) (w:World) (Q:PQ):Prop:=
 ∃J_1:Nat→Value→PQ,(∃m,J_1 m (.slice none 0 0) (.int .i64 0) w) ∧
 ∀m_1,∀t2:Value,∀t3:Value,∀w:World,J_1 m_1 t2 t3 w→Env →
 rN π Z (Builtin.len_ #[54] 3 #[x0]) w fun t4 w=>
 rN π Z (binOp .lss 3 t3 t4) w fun t5 w=>
 cV t5 (
 rN π Z (indexAt 54 x0 t3) w fun t6 w=>
 rN π Z (loadAt 32 t6) w fun t7 w=>
 ∃J_8:Nat→Value→PQ,(∃m,J_8 m t7 (.int .i64 0) w) ∧
 ∀m_8,∀t9:Value,∀t10:Value,∀w:World,J_8 m_8 t9 t10 w→Env →
 rN π Z (binOp .lss 3 t10 x1) w fun t11 w=>
 cV t11 (
 rN π Z (binOp .sub 3 (.int .i64 (-2000000)) t3) w fun t12 w=>
 CallV π Z 143 #[t12] w fun t13 w=>
 rN π Z (Instr.build 175 #[(1,t13)]) w fun t14 w=>
 rN π Z (Instr.buildSlice 32 1 #[(0,t14)]) w fun t15 w=>
 rN π Z (Builtin.append_ #[32,32] 32 #[t9,t15]) w fun t16 w=>
 rN π Z (binOp .add 3 t10 (.int .i64 1)) w fun t17 w=>
 ∃n_8,n_8 < m_8∧J_8 n_8 t16 t17 w) (
 rN π Z (Instr.buildSlice 54 1 #[(0,t9)]) w fun t18 w=>
 rN π Z (Builtin.append_ #[54,54] 54 #[t2,t18]) w fun t19 w=>
 rN π Z (binOp .add 3 t3 (.int .i64 1)) w fun t20 w=>
 ∃n_1,n_1 < m_1∧J_1 n_1 t19 t20 w)) (
 ∃J_21:Nat→PQ,(∃m,J_21 m (.int .i64 0) w) ∧
 ∀m_21,∀t22:Value,∀w:World,J_21 m_21 t22 w→Env →
 rN π Z (Builtin.len_ #[54] 3 #[x0]) w fun t23 w=>
 rN π Z (binOp .lss 3 t22 t23) w fun t24 w=>
 cV t24 (
 rN π Z (indexAt 54 x0 t22) w fun t25 w=>
 rN π Z (loadAt 32 t25) w fun t26 w=>
 rN π Z (Builtin.len_ #[32] 3 #[t26]) w fun t27 w=>
 ∃J_28:Nat→PQ,(∃m,J_28 m (.int .i64 0) w) ∧
 ∀m_28,∀t29:Value,∀w:World,J_28 m_28 t29 w→Env →
 rN π Z (binOp .add 3 t27 x1) w fun t30 w=>
 rN π Z (binOp .lss 3 t29 t30) w fun t31 w=>
 cV t31 (
 Drawn w fun w=>
 pU π (binOp .lss 3 t29 t27) fun t32=>
 guardV (t32) true (fun k=>k (x0)) (fun t33=>
 guardV (t32) true (fun k=>k (t22)) (fun t34=>
 guardV (t32) true (fun k=>pU π (indexAt 54 t33 t34) k) (fun t35=>
 guardV (t32) true (fun k=>rD π (loadAt 32 t35) w k) (fun t36=>
 guardV (t32) true (fun k=>k (t29)) (fun t37=>
 guardV (t32) true (fun k=>pU π (indexAt 32 t36 t37) k) (fun t38=>
 guardV (t32) true (fun k=>pU π (fieldAt 175 t38 1) k) (fun t39=>
 guardV (t32) true (fun k=>rD π (loadAt 9 t39) w k) (fun t40=>
 guardV (t32) true (fun k=>k (t22)) (fun t41=>
 guardV (t32) true (fun k=>pU π (binOp .sub 3 (.int .i64 (-1000000)) t41) k) (fun t42=>
 gW (t32) true (fun k=>CallV π Z 143 #[t42] w k) (fun t43 w=>
 Still π (gSem (t32) true (nx (loadAt 9 t39))) t40 w <|
 Still π (gSem (t32) true (nx (loadAt 32 t35))) t36 w <|
 guardV (t32) true (fun k=>pU π (eqOp .eql 9 false false t40 t43) k) (fun t44=>
 guardV (t32) true (fun k=>pU π (Op.unary .not t44) k) (fun t45=>
 pU π (pickV t32 t45 (.bool false)) fun t46=>
 guardV (t46) false (fun k=>k (t29)) (fun t47=>
 guardV (t46) false (fun k=>k (t27)) (fun t48=>
 guardV (t46) false (fun k=>pU π (binOp .lss 3 t47 t48) k) (fun t49=>
 guardV (t46) false (fun k=>k (t49)) (fun t50=>
 guardV (t50) true (fun k=>k (t2)) (fun t51=>
 guardV (t50) true (fun k=>k (t22)) (fun t52=>
 guardV (t50) true (fun k=>pU π (indexAt 54 t51 t52) k) (fun t53=>
 guardV (t50) true (fun k=>rD π (loadAt 32 t53) w k) (fun t54=>
 guardV (t50) true (fun k=>k (t29)) (fun t55=>
 guardV (t50) true (fun k=>pU π (indexAt 32 t54 t55) k) (fun t56=>
 guardV (t50) true (fun k=>pU π (fieldAt 175 t56 1) k) (fun t57=>
 guardV (t50) true (fun k=>rD π (loadAt 9 t57) w k) (fun t58=>
 guardV (t50) true (fun k=>k (t22)) (fun t59=>
 guardV (t50) true (fun k=>pU π (binOp .sub 3 (.int .i64 (-1000000)) t59) k) (fun t60=>
 gW (t50) true (fun k=>CallV π Z 143 #[t60] w k) (fun t61 w=>
 Still π (gSem (t50) true (nx (loadAt 9 t57))) t58 w <|
 Still π (gSem (t50) true (nx (loadAt 32 t53))) t54 w <|
 Still π (gSem (t32) true (nx (loadAt 9 t39))) t40 w <|
 Still π (gSem (t32) true (nx (loadAt 32 t35))) t36 w <|
 guardV (t50) true (fun k=>pU π (eqOp .eql 9 false false t58 t61) k) (fun t62=>
 guardV (t50) true (fun k=>pU π (Op.unary .not t62) k) (fun t63=>
 guardV (t46) false (fun k=>pU π (pickV t50 t63 (.bool false)) k) (fun t64=>
 pU π (pickV t46 (.bool true) t64) fun t65=>
 guardV (t65) false (fun k=>k (t29)) (fun t66=>
 guardV (t65) false (fun k=>k (t27)) (fun t67=>
 guardV (t65) false (fun k=>pU π (binOp .geq 3 t66 t67) k) (fun t68=>
 guardV (t65) false (fun k=>k (t68)) (fun t69=>
 guardV (t69) true (fun k=>k (t2)) (fun t70=>
 guardV (t69) true (fun k=>k (t22)) (fun t71=>
 guardV (t69) true (fun k=>pU π (indexAt 54 t70 t71) k) (fun t72=>
 guardV (t69) true (fun k=>rD π (loadAt 32 t72) w k) (fun t73=>
 guardV (t69) true (fun k=>k (t29)) (fun t74=>
 guardV (t69) true (fun k=>pU π (indexAt 32 t73 t74) k) (fun t75=>
 guardV (t69) true (fun k=>pU π (fieldAt 175 t75 1) k) (fun t76=>
 guardV (t69) true (fun k=>rD π (loadAt 9 t76) w k) (fun t77=>
 guardV (t69) true (fun k=>k (t22)) (fun t78=>
 guardV (t69) true (fun k=>pU π (binOp .sub 3 (.int .i64 (-2000000)) t78) k) (fun t79=>
 gW (t69) true (fun k=>CallV π Z 143 #[t79] w k) (fun t80 w=>
 Still π (gSem (t69) true (nx (loadAt 9 t76))) t77 w <|
 Still π (gSem (t69) true (nx (loadAt 32 t72))) t73 w <|
 Still π (gSem (t50) true (nx (loadAt 9 t57))) t58 w <|
 Still π (gSem (t50) true (nx (loadAt 32 t53))) t54 w <|
 Still π (gSem (t32) true (nx (loadAt 9 t39))) t40 w <|
 Still π (gSem (t32) true (nx (loadAt 32 t35))) t36 w <|
 guardV (t69) true (fun k=>pU π (eqOp .eql 9 false false t77 t80) k) (fun t81=>
 guardV (t69) true (fun k=>pU π (Op.unary .not t81) k) (fun t82=>
 guardV (t65) false (fun k=>pU π (pickV t69 t82 (.bool false)) k) (fun t83=>
 pU π (pickV t65 (.bool true) t83) fun t84=>
 cV t84 (
 Q (.bool false) w) (
 rN π Z (binOp .add 3 t29 (.int .i64 1)) w fun t85 w=>
 ∃n_28,n_28 < m_28∧J_28 n_28 t85 w))))) w)))))))))))))))))) w))))))))))))))))) w))))))))))) (
 rN π Z (binOp .add 3 t22 (.int .i64 1)) w fun t86 w=>
 ∃n_21,n_21 < m_21∧J_21 n_21 t86 w)) (
 Q (.bool true) w))
def f146.an:An:=(.q (.q (.sq (.q (.bl (.lp [5,6] (.sq (.q (.c)) (.sq (.bl (.q (.sq (.q (.bl (.lp [7,8] (.sq (.q (.c)) (.sq (.bl .leaf) .leaf))))) .leaf))) .leaf))))) (.sq (.q (.bl (.lp [9] (.sq (.q (.c)) (.sq (.bl (.q (.q (.bl (.lp [11] (.sq (.q (.c)) (.sq (.bl (.sq (.dr (pl [0,4,8,12,16,20,24,29,32,36,40,45,48,52,58,60,64,68,72,76,80,84,88,92,96,100,105,108,112,116,121,124,128,134,136,140,144,148,152,156,160,164,168,172,176,180,185,188,192,196,201,204,208,214,216,220,224,228] .fin)) (.cn (.sq .leaf .leaf) .leaf))) .leaf))))))) .leaf))))) (.sq .leaf .leaf)))))
theorem f146.calls {Z:PZ} {x0 x1:Value} {w:World} {Q:PQ} (h:f146.sh Z x0 x1 w Q):CallV π Z 146 #[x0,x1] w Q:=
 cl Tryz.func146 f146.an [x0,x1] (by kernel_rfl) (by kernel_rfl) h

def f147.sh (Z:PZ) (x0 x1:Value) (w:World) (Q:PQ):Prop:=
 ∃J_1:Nat→Value→PQ,(∃m,J_1 m (.slice none 0 0) (.int .i64 0) w) ∧
 ∀m_1,∀t2:Value,∀t3:Value,∀w:World,J_1 m_1 t2 t3 w→Env →
 rN π Z (Builtin.len_ #[55] 3 #[x0]) w fun t4 w=>
 rN π Z (binOp .lss 3 t3 t4) w fun t5 w=>
 cV t5 (
 rN π Z (indexAt 55 x0 t3) w fun t6 w=>
 rN π Z (loadAt 31 t6) w fun t7 w=>
 ∃J_8:Nat→Value→PQ,(∃m,J_8 m t7 (.int .i64 0) w) ∧
 ∀m_8,∀t9:Value,∀t10:Value,∀w:World,J_8 m_8 t9 t10 w→Env →
 rN π Z (binOp .lss 3 t10 x1) w fun t11 w=>
 cV t11 (
 rN π Z (binOp .sub 3 (.int .i64 (-2000000)) t3) w fun t12 w=>
 CallV π Z 143 #[t12] w fun t13 w=>
 rN π Z (Instr.build 175 #[(1,t13)]) w fun t14 w=>
 rN π Z (Instr.build 178 #[(1,t14)]) w fun t15 w=>
 rN π Z (Instr.buildSlice 31 1 #[(0,t15)]) w fun t16 w=>
 rN π Z (Builtin.append_ #[31,31] 31 #[t9,t16]) w fun t17 w=>
 rN π Z (binOp .add 3 t10 (.int .i64 1)) w fun t18 w=>
 ∃n_8,n_8 < m_8∧J_8 n_8 t17 t18 w) (
 rN π Z (Instr.buildSlice 55 1 #[(0,t9)]) w fun t19 w=>
 rN π Z (Builtin.append_ #[55,55] 55 #[t2,t19]) w fun t20 w=>
 rN π Z (binOp .add 3 t3 (.int .i64 1)) w fun t21 w=>
 ∃n_1,n_1 < m_1∧J_1 n_1 t20 t21 w)) (
 ∃J_22:Nat→PQ,(∃m,J_22 m (.int .i64 0) w) ∧
 ∀m_22,∀t23:Value,∀w:World,J_22 m_22 t23 w→Env →
 rN π Z (Builtin.len_ #[55] 3 #[x0]) w fun t24 w=>
 rN π Z (binOp .lss 3 t23 t24) w fun t25 w=>
 cV t25 (
 rN π Z (indexAt 55 x0 t23) w fun t26 w=>
 rN π Z (loadAt 31 t26) w fun t27 w=>
 rN π Z (Builtin.len_ #[31] 3 #[t27]) w fun t28 w=>
 ∃J_29:Nat→PQ,(∃m,J_29 m (.int .i64 0) w) ∧
 ∀m_29,∀t30:Value,∀w:World,J_29 m_29 t30 w→Env →
 rN π Z (binOp .add 3 t28 x1) w fun t31 w=>
 rN π Z (binOp .lss 3 t30 t31) w fun t32 w=>
 cV t32 (
 Drawn w fun w=>
 pU π (binOp .lss 3 t30 t28) fun t33=>
 guardV (t33) true (fun k=>k (x0)) (fun t34=>
 guardV (t33) true (fun k=>k (t23)) (fun t35=>
 guardV (t33) true (fun k=>pU π (indexAt 55 t34 t35) k) (fun t36=>
 guardV (t33) true (fun k=>rD π (loadAt 31 t36) w k) (fun t37=>
 guardV (t33) true (fun k=>k (t30)) (fun t38=>
 guardV (t33) true (fun k=>pU π (indexAt 31 t37 t38) k) (fun t39=>
 guardV (t33) true (fun k=>pU π (fieldAt 178 t39 1) k) (fun t40=>
 guardV (t33) true (fun k=>pU π (fieldAt 175 t40 1) k) (fun t41=>
 guardV (t33) true (fun k=>rD π (loadAt 9 t41) w k) (fun t42=>
 guardV (t33) true (fun k=>k (t23)) (fun t43=>
 guardV (t33) true (fun k=>pU π (binOp .sub 3 (.int .i64 (-1000000)) t43) k) (fun t44=>
 gW (t33) true (fun k=>CallV π Z 143 #[t44] w k) (fun t45 w=>
 Still π (gSem (t33) true (nx (loadAt 9 t41))) t42 w <|
 Still π (gSem (t33) true (nx (loadAt 31 t36))) t37 w <|
 guardV (t33) true (fun k=>pU π (eqOp .eql 9 false false t42 t45) k) (fun t46=>
 guardV (t33) true (fun k=>pU π (Op.unary .not t46) k) (fun t47=>
 pU π (pickV t33 t47 (.bool false)) fun t48=>
 guardV (t48) false (fun k=>k (t30)) (fun t49=>
 guardV (t48) false (fun k=>k (t28)) (fun t50=>
 guardV (t48) false (fun k=>pU π (binOp .lss 3 t49 t50) k) (fun t51=>
 guardV (t48) false (fun k=>k (t51)) (fun t52=>
 guardV (t52) true (fun k=>k (t2)) (fun t53=>
 guardV (t52) true (fun k=>k (t23)) (fun t54=>
 guardV (t52) true (fun k=>pU π (indexAt 55 t53 t54) k) (fun t55=>
 guardV (t52) true (fun k=>rD π (loadAt 31 t55) w k) (fun t56=>
 guardV (t52) true (fun k=>k (t30)) (fun t57=>
 guardV (t52) true (fun k=>pU π (indexAt 31 t56 t57) k) (fun t58=>
 guardV (t52) true (fun k=>pU π (fieldAt 178 t58 1) k) (fun t59=>
 guardV (t52) true (fun k=>pU π (fieldAt 175 t59 1) k) (fun t60=>
 guardV (t52) true (fun k=>rD π (loadAt 9 t60) w k) (fun t61=>
 guardV (t52) true (fun k=>k (t23)) (fun t62=>
 guardV (t52) true (fun k=>pU π (binOp .sub 3 (.int .i64 (-1000000)) t62) k) (fun t63=>
 gW (t52) true (fun k=>CallV π Z 143 #[t63] w k) (fun t64 w=>
 Still π (gSem (t52) true (nx (loadAt 9 t60))) t61 w <|
 Still π (gSem (t52) true (nx (loadAt 31 t55))) t56 w <|
 Still π (gSem (t33) true (nx (loadAt 9 t41))) t42 w <|
 Still π (gSem (t33) true (nx (loadAt 31 t36))) t37 w <|
 guardV (t52) true (fun k=>pU π (eqOp .eql 9 false false t61 t64) k) (fun t65=>
 guardV (t52) true (fun k=>pU π (Op.unary .not t65) k) (fun t66=>
 guardV (t48) false (fun k=>pU π (pickV t52 t66 (.bool false)) k) (fun t67=>
 pU π (pickV t48 (.bool true) t67) fun t68=>
 guardV (t68) false (fun k=>k (t30)) (fun t69=>
 guardV (t68) false (fun k=>k (t28)) (fun t70=>
 guardV (t68) false (fun k=>pU π (binOp .geq 3 t69 t70) k) (fun t71=>
 guardV (t68) false (fun k=>k (t71)) (fun t72=>
 guardV (t72) true (fun k=>k (t2)) (fun t73=>
 guardV (t72) true (fun k=>k (t23)) (fun t74=>
 guardV (t72) true (fun k=>pU π (indexAt 55 t73 t74) k) (fun t75=>
 guardV (t72) true (fun k=>rD π (loadAt 31 t75) w k) (fun t76=>
 guardV (t72) true (fun k=>k (t30)) (fun t77=>
 guardV (t72) true (fun k=>pU π (indexAt 31 t76 t77) k) (fun t78=>
 guardV (t72) true (fun k=>pU π (fieldAt 178 t78 1) k) (fun t79=>
 guardV (t72) true (fun k=>pU π (fieldAt 175 t79 1) k) (fun t80=>
 guardV (t72) true (fun k=>rD π (loadAt 9 t80) w k) (fun t81=>
 guardV (t72) true (fun k=>k (t23)) (fun t82=>
 guardV (t72) true (fun k=>pU π (binOp .sub 3 (.int .i64 (-2000000)) t82) k) (fun t83=>
 gW (t72) true (fun k=>CallV π Z 143 #[t83] w k) (fun t84 w=>
 Still π (gSem (t72) true (nx (loadAt 9 t80))) t81 w <|
 Still π (gSem (t72) true (nx (loadAt 31 t75))) t76 w <|
 Still π (gSem (t52) true (nx (loadAt 9 t60))) t61 w <|
 Still π (gSem (t52) true (nx (loadAt 31 t55))) t56 w <|
 Still π (gSem (t33) true (nx (loadAt 9 t41))) t42 w <|
 Still π (gSem (t33) true (nx (loadAt 31 t36))) t37 w <|
 guardV (t72) true (fun k=>pU π (eqOp .eql 9 false false t81 t84) k) (fun t85=>
 guardV (t72) true (fun k=>pU π (Op.unary .not t85) k) (fun t86=>
 guardV (t68) false (fun k=>pU π (pickV t72 t86 (.bool false)) k) (fun t87=>
 pU π (pickV t68 (.bool true) t87) fun t88=>
 cV t88 (
 Q (.bool false) w) (
 rN π Z (binOp .add 3 t30 (.int .i64 1)) w fun t89 w=>
 ∃n_29,n_29 < m_29∧J_29 n_29 t89 w))))) w))))))))))))))))))) w)))))))))))))))))) w)))))))))))) (
 rN π Z (binOp .add 3 t23 (.int .i64 1)) w fun t90 w=>
 ∃n_22,n_22 < m_22∧J_22 n_22 t90 w)) (
 Q (.bool true) w))
def f147.an:An:=(.q (.q (.sq (.q (.bl (.lp [5,6] (.sq (.q (.c)) (.sq (.bl (.q (.sq (.q (.bl (.lp [7,8] (.sq (.q (.c)) (.sq (.bl .leaf) .leaf))))) .leaf))) .leaf))))) (.sq (.q (.bl (.lp [9] (.sq (.q (.c)) (.sq (.bl (.q (.q (.bl (.lp [11] (.sq (.q (.c)) (.sq (.bl (.sq (.dr (pl [0,4,8,12,16,20,24,29,32,36,40,44,49,52,56,62,64,68,72,76,80,84,88,92,96,100,104,109,112,116,120,124,129,132,136,142,144,148,152,156,160,164,168,172,176,180,184,188,193,196,200,204,208,213,216,220,226,228,232,236,240] .fin)) (.cn (.sq .leaf .leaf) .leaf))) .leaf))))))) .leaf))))) (.sq .leaf .leaf)))))
theorem f147.calls {Z:PZ} {x0 x1:Value} {w:World} {Q:PQ} (h:f147.sh Z x0 x1 w Q):CallV π Z 147 #[x0,x1] w Q:=
 cl Tryz.func147 f147.an [x0,x1] (by kernel_rfl) (by kernel_rfl) h

def f148.sh (Z:PZ) (x0 x1:Value) (w:World) (Q:PQ):Prop:=
 ∃J_1:Nat→Value→PQ,(∃m,J_1 m (.slice none 0 0) (.int .i64 0) w) ∧
 ∀m_1,∀t2:Value,∀t3:Value,∀w:World,J_1 m_1 t2 t3 w→Env →
 rN π Z (Builtin.len_ #[56] 3 #[x0]) w fun t4 w=>
 rN π Z (binOp .lss 3 t3 t4) w fun t5 w=>
 cV t5 (
 rN π Z (indexAt 56 x0 t3) w fun t6 w=>
 rN π Z (loadAt 33 t6) w fun t7 w=>
 ∃J_8:Nat→Value→PQ,(∃m,J_8 m t7 (.int .i64 0) w) ∧
 ∀m_8,∀t9:Value,∀t10:Value,∀w:World,J_8 m_8 t9 t10 w→Env →
 rN π Z (binOp .lss 3 t10 x1) w fun t11 w=>
 cV t11 (
 rN π Z (binOp .sub 3 (.int .i64 (-2000000)) t3) w fun t12 w=>
 rN π Z (Instr.build 35 #[(7,t12)]) w fun t13 w=>
 rN π Z (Instr.buildSlice 33 1 #[(0,t13)]) w fun t14 w=>
 rN π Z (Builtin.append_ #[33,33] 33 #[t9,t14]) w fun t15 w=>
 rN π Z (binOp .add 3 t10 (.int .i64 1)) w fun t16 w=>
 ∃n_8,n_8 < m_8∧J_8 n_8 t15 t16 w) (
 rN π Z (Instr.buildSlice 56 1 #[(0,t9)]) w fun t17 w=>
 rN π Z (Builtin.append_ #[56,56] 56 #[t2,t17]) w fun t18 w=>
 rN π Z (binOp .add 3 t3 (.int .i64 1)) w fun t19 w=>
 ∃n_1,n_1 < m_1∧J_1 n_1 t18 t19 w)) (
 ∃J_20:Nat→PQ,(∃m,J_20 m (.int .i64 0) w) ∧
 ∀m_20,∀t21:Value,∀w:World,J_20 m_20 t21 w→Env →
 rN π Z (Builtin.len_ #[56] 3 #[x0]) w fun t22 w=>
 rN π Z (binOp .lss 3 t21 t22) w fun t23 w=>
 cV t23 (
 rN π Z (indexAt 56 x0 t21) w fun t24 w=>
 rN π Z (loadAt 33 t24) w fun t25 w=>
 rN π Z (Builtin.len_ #[33] 3 #[t25]) w fun t26 w=>
 ∃J_27:Nat→PQ,(∃m,J_27 m (.int .i64 0) w) ∧
 ∀m_27,∀t28:Value,∀w:World,J_27 m_27 t28 w→Env →
 rN π Z (binOp .add 3 t26 x1) w fun t29 w=>
 rN π Z (binOp .lss 3 t28 t29) w fun t30 w=>
 cV t30 (
 rN π Z (binOp .lss 3 t28 t26) w fun t31 w=>
 gW (t31) true (fun k=>k (x0) w) (fun t32 w=>
 gW (t31) true (fun k=>k (t21) w) (fun t33 w=>
 gW (t31) true (fun k=>rN π Z (indexAt 56 t32 t33) w k) (fun t34 w=>
 gW (t31) true (fun k=>rN π Z (loadAt 33 t34) w k) (fun t35 w=>
 gW (t31) true (fun k=>k (t28) w) (fun t36 w=>
 gW (t31) true (fun k=>rN π Z (indexAt 33 t35 t36) w k) (fun t37 w=>
 gW (t31) true (fun k=>rN π Z (fieldAt 35 t37 7) w k) (fun t38 w=>
 gW (t31) true (fun k=>rN π Z (loadAt 2 t38) w k) (fun t39 w=>
 gW (t31) true (fun k=>k (t21) w) (fun t40 w=>
 gW (t31) true (fun k=>rN π Z (binOp .sub 3 (.int .i64 (-1000000)) t40) w k) (fun t41 w=>
 gW (t31) true (fun k=>rN π Z (eqOp .eql 2 false false t39 t41) w k) (fun t42 w=>
 gW (t31) true (fun k=>rN π Z (Op.unary .not t42) w k) (fun t43 w=>
 rN π Z (pickV t31 t43 (.bool false)) w fun t44 w=>
 gW (t44) false (fun k=>k (t28) w) (fun t45 w=>
 gW (t44) false (fun k=>k (t26) w) (fun t46 w=>
 gW (t44) false (fun k=>rN π Z (binOp .lss 3 t45 t46) w k) (fun t47 w=>
 gW (t44) false (fun k=>k (t47) w) (fun t48 w=>
 gW (t48) true (fun k=>k (t2) w) (fun t49 w=>
 gW (t48) true (fun k=>k (t21) w) (fun t50 w=>
 gW (t48) true (fun k=>rN π Z (indexAt 56 t49 t50) w k) (fun t51 w=>
 gW (t48) true (fun k=>rN π Z (loadAt 33 t51) w k) (fun t52 w=>
 gW (t48) true (fun k=>k (t28) w) (fun t53 w=>
 gW (t48) true (fun k=>rN π Z (indexAt 33 t52 t53) w k) (fun t54 w=>
 gW (t48) true (fun k=>rN π Z (fieldAt 35 t54 7) w k) (fun t55 w=>
 gW (t48) true (fun k=>rN π Z (loadAt 2 t55) w k) (fun t56 w=>
 gW (t48) true (fun k=>k (t21) w) (fun t57 w=>
 gW (t48) true (fun k=>rN π Z (binOp .sub 3 (.int .i64 (-1000000)) t57) w k) (fun t58 w=>
 gW (t48) true (fun k=>rN π Z (eqOp .eql 2 false false t56 t58) w k) (fun t59 w=>
 gW (t48) true (fun k=>rN π Z (Op.unary .not t59) w k) (fun t60 w=>
 gW (t44) false (fun k=>rN π Z (pickV t48 t60 (.bool false)) w k) (fun t61 w=>
 rN π Z (pickV t44 (.bool true) t61) w fun t62 w=>
 gW (t62) false (fun k=>k (t28) w) (fun t63 w=>
 gW (t62) false (fun k=>k (t26) w) (fun t64 w=>
 gW (t62) false (fun k=>rN π Z (binOp .geq 3 t63 t64) w k) (fun t65 w=>
 gW (t62) false (fun k=>k (t65) w) (fun t66 w=>
 gW (t66) true (fun k=>k (t2) w) (fun t67 w=>
 gW (t66) true (fun k=>k (t21) w) (fun t68 w=>
 gW (t66) true (fun k=>rN π Z (indexAt 56 t67 t68) w k) (fun t69 w=>
 gW (t66) true (fun k=>rN π Z (loadAt 33 t69) w k) (fun t70 w=>
 gW (t66) true (fun k=>k (t28) w) (fun t71 w=>
 gW (t66) true (fun k=>rN π Z (indexAt 33 t70 t71) w k) (fun t72 w=>
 gW (t66) true (fun k=>rN π Z (fieldAt 35 t72 7) w k) (fun t73 w=>
 gW (t66) true (fun k=>rN π Z (loadAt 2 t73) w k) (fun t74 w=>
 gW (t66) true (fun k=>k (t21) w) (fun t75 w=>
 gW (t66) true (fun k=>rN π Z (binOp .sub 3 (.int .i64 (-2000000)) t75) w k) (fun t76 w=>
 gW (t66) true (fun k=>rN π Z (eqOp .eql 2 false false t74 t76) w k) (fun t77 w=>
 gW (t66) true (fun k=>rN π Z (Op.unary .not t77) w k) (fun t78 w=>
 gW (t62) false (fun k=>rN π Z (pickV t66 t78 (.bool false)) w k) (fun t79 w=>
 rN π Z (pickV t62 (.bool true) t79) w fun t80 w=>
 cV t80 (
 Q (.bool false) w) (
 rN π Z (binOp .add 3 t28 (.int .i64 1)) w fun t81 w=>
 ∃n_27,n_27 < m_27∧J_27 n_27 t81 w)) w) w) w) w) w) w) w) w) w) w) w) w) w) w) w) w) w) w) w) w) w) w) w) w) w) w) w) w) w) w) w) w) w) w) w) w) w) w) w) w) w) w) w) w) w) w) (
 rN π Z (binOp .add 3 t21 (.int .i64 1)) w fun t82 w=>
 ∃n_20,n_20 < m_20∧J_20 n_20 t82 w)) (
 Q (.bool true) w))
def f148.an:An:=(.q (.q (.sq (.q (.bl (.lp [5,6] (.sq (.q (.c)) (.sq (.bl (.q (.sq (.q (.bl (.lp [7,8] (.sq (.q (.c)) (.sq (.bl .leaf) .leaf))))) .leaf))) .leaf))))) (.sq (.q (.bl (.lp [9] (.sq (.q (.c)) (.sq (.bl (.q (.q (.bl (.lp [11] (.sq (.q (.c)) (.sq (.bl (.q (.cn (.sq .leaf .leaf) .leaf))) .leaf))))))) .leaf))))) (.sq .leaf .leaf)))))
theorem f148.calls {Z:PZ} {x0 x1:Value} {w:World} {Q:PQ} (h:f148.sh Z x0 x1 w Q):CallV π Z 148 #[x0,x1] w Q:=
 cl Tryz.func148 f148.an [x0,x1] (by kernel_rfl) (by kernel_rfl) h

def f149.sh (Z:PZ) (x0 x1:Value) (w:World) (Q:PQ):Prop:=
 ∃J_1:Nat→Value→PQ,(∃m,J_1 m (.slice none 0 0) (.int .i64 0) w) ∧
 ∀m_1,∀t2:Value,∀t3:Value,∀w:World,J_1 m_1 t2 t3 w→Env →
 rN π Z (Builtin.len_ #[57] 3 #[x0]) w fun t4 w=>
 rN π Z (binOp .lss 3 t3 t4) w fun t5 w=>
 cV t5 (
 False) (
 ∃J_6:Nat→PQ,(∃m,J_6 m (.int .i64 0) w) ∧
 ∀m_6,∀t7:Value,∀w:World,J_6 m_6 t7 w→Env →
 rN π Z (Builtin.len_ #[57] 3 #[x0]) w fun t8 w=>
 rN π Z (binOp .lss 3 t7 t8) w fun t9 w=>
 cV t9 (
 False) (
 Q (.bool true) w))
def f149.an:An:=(.q (.q (.sq (.q (.bl (.lp [5,6] (.sq (.q (.c)) .leaf)))) (.sq (.q (.bl (.lp [9] (.sq (.q (.c)) .leaf)))) (.sq .leaf .leaf)))))
theorem f149.calls {Z:PZ} {x0 x1:Value} {w:World} {Q:PQ} (h:f149.sh Z x0 x1 w Q):CallV π Z 149 #[x0,x1] w Q:=
 cl Tryz.func149 f149.an [x0,x1] (by kernel_rfl) (by kernel_rfl) h

def f150.sh (Z:PZ) (x0 x1:Value) (w:World) (Q:PQ):Prop:=
 ∃J_1:Nat→Value→PQ,(∃m,J_1 m (.slice none 0 0) (.int .i64 0) w) ∧
 ∀m_1,∀t2:Value,∀t3:Value,∀w:World,J_1 m_1 t2 t3 w→Env →
 rN π Z (Builtin.len_ #[58] 3 #[x0]) w fun t4 w=>
 rN π Z (binOp .lss 3 t3 t4) w fun t5 w=>
 cV t5 (
 False) (
 ∃J_6:Nat→PQ,(∃m,J_6 m (.int .i64 0) w) ∧
 ∀m_6,∀t7:Value,∀w:World,J_6 m_6 t7 w→Env →
 rN π Z (Builtin.len_ #[58] 3 #[x0]) w fun t8 w=>
 rN π Z (binOp .lss 3 t7 t8) w fun t9 w=>
 cV t9 (
 False) (
 Q (.bool true) w))
def f150.an:An:=(.q (.q (.sq (.q (.bl (.lp [5,6] (.sq (.q (.c)) .leaf)))) (.sq (.q (.bl (.lp [9] (.sq (.q (.c)) .leaf)))) (.sq .leaf .leaf)))))
theorem f150.calls {Z:PZ} {x0 x1:Value} {w:World} {Q:PQ} (h:f150.sh Z x0 x1 w Q):CallV π Z 150 #[x0,x1] w Q:=
 cl Tryz.func150 f150.an [x0,x1] (by kernel_rfl) (by kernel_rfl) h

def f151.sh (Z:PZ) (x0 x1:Value) (w:World) (Q:PQ):Prop:=
 ∃J_1:Nat→Value→PQ,(∃m,J_1 m (.slice none 0 0) (.int .i64 0) w) ∧
 ∀m_1,∀t2:Value,∀t3:Value,∀w:World,J_1 m_1 t2 t3 w→Env →
 rN π Z (Builtin.len_ #[59] 3 #[x0]) w fun t4 w=>
 rN π Z (binOp .lss 3 t3 t4) w fun t5 w=>
 cV t5 (
 False) (
 ∃J_6:Nat→PQ,(∃m,J_6 m (.int .i64 0) w) ∧
 ∀m_6,∀t7:Value,∀w:World,J_6 m_6 t7 w→Env →
 rN π Z (Builtin.len_ #[59] 3 #[x0]) w fun t8 w=>
 rN π Z (binOp .lss 3 t7 t8) w fun t9 w=>
 cV t9 (
 False) (
 Q (.bool true) w))
def f151.an:An:=(.q (.q (.sq (.q (.bl (.lp [5,6] (.sq (.q (.c)) .leaf)))) (.sq (.q (.bl (.lp [9] (.sq (.q (.c)) .leaf)))) (.sq .leaf .leaf)))))
theorem f151.calls {Z:PZ} {x0 x1:Value} {w:World} {Q:PQ} (h:f151.sh Z x0 x1 w Q):CallV π Z 151 #[x0,x1] w Q:=
 cl Tryz.func151 f151.an [x0,x1] (by kernel_rfl) (by kernel_rfl) h

def f152.sh (Z:PZ) (x0 x1:Value) (w:World) (Q:PQ):Prop:=
 ∃J_1:Nat→Value→PQ,(∃m,J_1 m (.slice none 0 0) (.int .i64 0) w) ∧
 ∀m_1,∀t2:Value,∀t3:Value,∀w:World,J_1 m_1 t2 t3 w→Env →
 rN π Z (Builtin.len_ #[60] 3 #[x0]) w fun t4 w=>
 rN π Z (binOp .lss 3 t3 t4) w fun t5 w=>
 cV t5 (
 False) (
 ∃J_6:Nat→PQ,(∃m,J_6 m (.int .i64 0) w) ∧
 ∀m_6,∀t7:Value,∀w:World,J_6 m_6 t7 w→Env →
 rN π Z (Builtin.len_ #[60] 3 #[x0]) w fun t8 w=>
 rN π Z (binOp .lss 3 t7 t8) w fun t9 w=>
 cV t9 (
 False) (
 Q (.bool true) w))
def f152.an:An:=(.q (.q (.sq (.q (.bl (.lp [5,6] (.sq (.q (.c)) .leaf)))) (.sq (.q (.bl (.lp [9] (.sq (.q (.c)) .leaf)))) (.sq .leaf .leaf)))))
theorem f152.calls {Z:PZ} {x0 x1:Value} {w:World} {Q:PQ} (h:f152.sh Z x0 x1 w Q):CallV π Z 152 #[x0,x1] w Q:=
 cl Tryz.func152 f152.an [x0,x1] (by kernel_rfl) (by kernel_rfl) h

def f153.sh (Z:PZ) (x0 x1:Value) (w:World) (Q:PQ):Prop:=
 ∃J_1:Nat→Value→PQ,(∃m,J_1 m (.slice none 0 0) (.int .i64 0) w) ∧
 ∀m_1,∀t2:Value,∀t3:Value,∀w:World,J_1 m_1 t2 t3 w→Env →
 rN π Z (Builtin.len_ #[61] 3 #[x0]) w fun t4 w=>
 rN π Z (binOp .lss 3 t3 t4) w fun t5 w=>
 cV t5 (
 False) (
 ∃J_6:Nat→PQ,(∃m,J_6 m (.int .i64 0) w) ∧
 ∀m_6,∀t7:Value,∀w:World,J_6 m_6 t7 w→Env →
 rN π Z (Builtin.len_ #[61] 3 #[x0]) w fun t8 w=>
 rN π Z (binOp .lss 3 t7 t8) w fun t9 w=>
 cV t9 (
 False) (
 Q (.bool true) w))
def f153.an:An:=(.q (.q (.sq (.q (.bl (.lp [5,6] (.sq (.q (.c)) .leaf)))) (.sq (.q (.bl (.lp [9] (.sq (.q (.c)) .leaf)))) (.sq .leaf .leaf)))))
theorem f153.calls {Z:PZ} {x0 x1:Value} {w:World} {Q:PQ} (h:f153.sh Z x0 x1 w Q):CallV π Z 153 #[x0,x1] w Q:=
 cl Tryz.func153 f153.an [x0,x1] (by kernel_rfl) (by kernel_rfl) h

def f154.sh (Z:PZ) (x0 x1:Value) (w:World) (Q:PQ):Prop:=
 ∃J_1:Nat→Value→PQ,(∃m,J_1 m (.slice none 0 0) (.int .i64 0) w) ∧
 ∀m_1,∀t2:Value,∀t3:Value,∀w:World,J_1 m_1 t2 t3 w→Env →
 rN π Z (Builtin.len_ #[62] 3 #[x0]) w fun t4 w=>
 rN π Z (binOp .lss 3 t3 t4) w fun t5 w=>
 cV t5 (
 False) (
 ∃J_6:Nat→PQ,(∃m,J_6 m (.int .i64 0) w) ∧
 ∀m_6,∀t7:Value,∀w:World,J_6 m_6 t7 w→Env →
 rN π Z (Builtin.len_ #[62] 3 #[x0]) w fun t8 w=>
 rN π Z (binOp .lss 3 t7 t8) w fun t9 w=>
 cV t9 (
 False) (
 Q (.bool true) w))
def f154.an:An:=(.q (.q (.sq (.q (.bl (.lp [5,6] (.sq (.q (.c)) .leaf)))) (.sq (.q (.bl (.lp [9] (.sq (.q (.c)) .leaf)))) (.sq .leaf .leaf)))))
theorem f154.calls {Z:PZ} {x0 x1:Value} {w:World} {Q:PQ} (h:f154.sh Z x0 x1 w Q):CallV π Z 154 #[x0,x1] w Q:=
 cl Tryz.func154 f154.an [x0,x1] (by kernel_rfl) (by kernel_rfl) h

def f155.sh (Z:PZ) (x0 x1:Value) (w:World) (Q:PQ):Prop:=
 ∃J_1:Nat→Value→PQ,(∃m,J_1 m (.slice none 0 0) (.int .i64 0) w) ∧
 ∀m_1,∀t2:Value,∀t3:Value,∀w:World,J_1 m_1 t2 t3 w→Env →
 rN π Z (Builtin.len_ #[63] 3 #[x0]) w fun t4 w=>
 rN π Z (binOp .lss 3 t3 t4) w fun t5 w=>
 cV t5 (
 False) (
 ∃J_6:Nat→PQ,(∃m,J_6 m (.int .i64 0) w) ∧
 ∀m_6,∀t7:Value,∀w:World,J_6 m_6 t7 w→Env →
 rN π Z (Builtin.len_ #[63] 3 #[x0]) w fun t8 w=>
 rN π Z (binOp .lss 3 t7 t8) w fun t9 w=>
 cV t9 (
 False) (
 Q (.bool true) w))
def f155.an:An:=(.q (.q (.sq (.q (.bl (.lp [5,6] (.sq (.q (.c)) .leaf)))) (.sq (.q (.bl (.lp [9] (.sq (.q (.c)) .leaf)))) (.sq .leaf .leaf)))))
theorem f155.calls {Z:PZ} {x0 x1:Value} {w:World} {Q:PQ} (h:f155.sh Z x0 x1 w Q):CallV π Z 155 #[x0,x1] w Q:=
 cl Tryz.func155 f155.an [x0,x1] (by kernel_rfl) (by kernel_rfl) h

def f156.sh (Z:PZ) (x0 x1:Value) (w:World) (Q:PQ):Prop:=
 ∃J_1:Nat→Value→PQ,(∃m,J_1 m (.slice none 0 0) (.int .i64 0) w) ∧
 ∀m_1,∀t2:Value,∀t3:Value,∀w:World,J_1 m_1 t2 t3 w→Env →
 rN π Z (Builtin.len_ #[64] 3 #[x0]) w fun t4 w=>
 rN π Z (binOp .lss 3 t3 t4) w fun t5 w=>
 cV t5 (
 False) (
 ∃J_6:Nat→PQ,(∃m,J_6 m (.int .i64 0) w) ∧
 ∀m_6,∀t7:Value,∀w:World,J_6 m_6 t7 w→Env →
 rN π Z (Builtin.len_ #[64] 3 #[x0]) w fun t8 w=>
 rN π Z (binOp .lss 3 t7 t8) w fun t9 w=>
 cV t9 (
 False) (
 Q (.bool true) w))
def f156.an:An:=(.q (.q (.sq (.q (.bl (.lp [5,6] (.sq (.q (.c)) .leaf)))) (.sq (.q (.bl (.lp [9] (.sq (.q (.c)) .leaf)))) (.sq .leaf .leaf)))))
theorem f156.calls {Z:PZ} {x0 x1:Value} {w:World} {Q:PQ} (h:f156.sh Z x0 x1 w Q):CallV π Z 156 #[x0,x1] w Q:=
 cl Tryz.func156 f156.an [x0,x1] (by kernel_rfl) (by kernel_rfl) h

def f157.sh (Z:PZ) (x0 x1:Value) (w:World) (Q:PQ):Prop:=
 ∃J_1:Nat→Value→PQ,(∃m,J_1 m (.slice none 0 0) (.int .i64 0) w) ∧
 ∀m_1,∀t2:Value,∀t3:Value,∀w:World,J_1 m_1 t2 t3 w→Env →
 rN π Z (Builtin.len_ #[65] 3 #[x0]) w fun t4 w=>
 rN π Z (binOp .lss 3 t3 t4) w fun t5 w=>
 cV t5 (
 False) (
 ∃J_6:Nat→PQ,(∃m,J_6 m (.int .i64 0) w) ∧
 ∀m_6,∀t7:Value,∀w:World,J_6 m_6 t7 w→Env →
 rN π Z (Builtin.len_ #[65] 3 #[x0]) w fun t8 w=>
 rN π Z (binOp .lss 3 t7 t8) w fun t9 w=>
 cV t9 (
 False) (
 Q (.bool true) w))
def f157.an:An:=(.q (.q (.sq (.q (.bl (.lp [5,6] (.sq (.q (.c)) .leaf)))) (.sq (.q (.bl (.lp [9] (.sq (.q (.c)) .leaf)))) (.sq .leaf .leaf)))))
theorem f157.calls {Z:PZ} {x0 x1:Value} {w:World} {Q:PQ} (h:f157.sh Z x0 x1 w Q):CallV π Z 157 #[x0,x1] w Q:=
 cl Tryz.func157 f157.an [x0,x1] (by kernel_rfl) (by kernel_rfl) h

def f158.sh (Z:PZ) (x0 x1:Value) (w:World) (Q:PQ):Prop:=
 ∃J_1:Nat→Value→PQ,(∃m,J_1 m (.slice none 0 0) (.int .i64 0) w) ∧
 ∀m_1,∀t2:Value,∀t3:Value,∀w:World,J_1 m_1 t2 t3 w→Env →
 rN π Z (Builtin.len_ #[66] 3 #[x0]) w fun t4 w=>
 rN π Z (binOp .lss 3 t3 t4) w fun t5 w=>
 cV t5 (
 False) (
 ∃J_6:Nat→PQ,(∃m,J_6 m (.int .i64 0) w) ∧
 ∀m_6,∀t7:Value,∀w:World,J_6 m_6 t7 w→Env →
 rN π Z (Builtin.len_ #[66] 3 #[x0]) w fun t8 w=>
 rN π Z (binOp .lss 3 t7 t8) w fun t9 w=>
 cV t9 (
 False) (
 Q (.bool true) w))
def f158.an:An:=(.q (.q (.sq (.q (.bl (.lp [5,6] (.sq (.q (.c)) .leaf)))) (.sq (.q (.bl (.lp [9] (.sq (.q (.c)) .leaf)))) (.sq .leaf .leaf)))))
theorem f158.calls {Z:PZ} {x0 x1:Value} {w:World} {Q:PQ} (h:f158.sh Z x0 x1 w Q):CallV π Z 158 #[x0,x1] w Q:=
 cl Tryz.func158 f158.an [x0,x1] (by kernel_rfl) (by kernel_rfl) h

def f159.sh (Z:PZ) (x0 x1:Value) (w:World) (Q:PQ):Prop:=
 ∃J_1:Nat→Value→PQ,(∃m,J_1 m (.slice none 0 0) (.int .i64 0) w) ∧
 ∀m_1,∀t2:Value,∀t3:Value,∀w:World,J_1 m_1 t2 t3 w→Env →
 rN π Z (Builtin.len_ #[67] 3 #[x0]) w fun t4 w=>
 rN π Z (binOp .lss 3 t3 t4) w fun t5 w=>
 cV t5 (
 False) (
 ∃J_6:Nat→PQ,(∃m,J_6 m (.int .i64 0) w) ∧
 ∀m_6,∀t7:Value,∀w:World,J_6 m_6 t7 w→Env →
 rN π Z (Builtin.len_ #[67] 3 #[x0]) w fun t8 w=>
 rN π Z (binOp .lss 3 t7 t8) w fun t9 w=>
 cV t9 (
 False) (
 Q (.bool true) w))
def f159.an:An:=(.q (.q (.sq (.q (.bl (.lp [5,6] (.sq (.q (.c)) .leaf)))) (.sq (.q (.bl (.lp [9] (.sq (.q (.c)) .leaf)))) (.sq .leaf .leaf)))))
theorem f159.calls {Z:PZ} {x0 x1:Value} {w:World} {Q:PQ} (h:f159.sh Z x0 x1 w Q):CallV π Z 159 #[x0,x1] w Q:=
 cl Tryz.func159 f159.an [x0,x1] (by kernel_rfl) (by kernel_rfl) h

def f160.sh (Z:PZ) (x0 x1:Value) (w:World) (Q:PQ):Prop:=
 ∃J_1:Nat→Value→PQ,(∃m,J_1 m (.slice none 0 0) (.int .i64 0) w) ∧
 ∀m_1,∀t2:Value,∀t3:Value,∀w:World,J_1 m_1 t2 t3 w→Env →
 rN π Z (Builtin.len_ #[68] 3 #[x0]) w fun t4 w=>
 rN π Z (binOp .lss 3 t3 t4) w fun t5 w=>
 cV t5 (
 False) (
 ∃J_6:Nat→PQ,(∃m,J_6 m (.int .i64 0) w) ∧
 ∀m_6,∀t7:Value,∀w:World,J_6 m_6 t7 w→Env →
 rN π Z (Builtin.len_ #[68] 3 #[x0]) w fun t8 w=>
 rN π Z (binOp .lss 3 t7 t8) w fun t9 w=>
 cV t9 (
 False) (
 Q (.bool true) w))
def f160.an:An:=(.q (.q (.sq (.q (.bl (.lp [5,6] (.sq (.q (.c)) .leaf)))) (.sq (.q (.bl (.lp [9] (.sq (.q (.c)) .leaf)))) (.sq .leaf .leaf)))))
theorem f160.calls {Z:PZ} {x0 x1:Value} {w:World} {Q:PQ} (h:f160.sh Z x0 x1 w Q):CallV π Z 160 #[x0,x1] w Q:=
 cl Tryz.func160 f160.an [x0,x1] (by kernel_rfl) (by kernel_rfl) h

def f161.sh (Z:PZ) (x0 x1:Value) (w:World) (Q:PQ):Prop:=
 ∃J_1:Nat→Value→PQ,(∃m,J_1 m (.slice none 0 0) (.int .i64 0) w) ∧
 ∀m_1,∀t2:Value,∀t3:Value,∀w:World,J_1 m_1 t2 t3 w→Env →
 rN π Z (Builtin.len_ #[69] 3 #[x0]) w fun t4 w=>
 rN π Z (binOp .lss 3 t3 t4) w fun t5 w=>
 cV t5 (
 False) (
 ∃J_6:Nat→PQ,(∃m,J_6 m (.int .i64 0) w) ∧
 ∀m_6,∀t7:Value,∀w:World,J_6 m_6 t7 w→Env →
 rN π Z (Builtin.len_ #[69] 3 #[x0]) w fun t8 w=>
 rN π Z (binOp .lss 3 t7 t8) w fun t9 w=>
 cV t9 (
 False) (
 Q (.bool true) w))
def f161.an:An:=(.q (.q (.sq (.q (.bl (.lp [5,6] (.sq (.q (.c)) .leaf)))) (.sq (.q (.bl (.lp [9] (.sq (.q (.c)) .leaf)))) (.sq .leaf .leaf)))))
theorem f161.calls {Z:PZ} {x0 x1:Value} {w:World} {Q:PQ} (h:f161.sh Z x0 x1 w Q):CallV π Z 161 #[x0,x1] w Q:=
 cl Tryz.func161 f161.an [x0,x1] (by kernel_rfl) (by kernel_rfl) h

def f162.sh (Z:PZ) (x0 x1:Value) (w:World) (Q:PQ):Prop:=
 ∃J_1:Nat→Value→PQ,(∃m,J_1 m (.slice none 0 0) (.int .i64 0) w) ∧
 ∀m_1,∀t2:Value,∀t3:Value,∀w:World,J_1 m_1 t2 t3 w→Env →
 rN π Z (Builtin.len_ #[70] 3 #[x0]) w fun t4 w=>
 rN π Z (binOp .lss 3 t3 t4) w fun t5 w=>
 cV t5 (
 False) (
 ∃J_6:Nat→PQ,(∃m,J_6 m (.int .i64 0) w) ∧
 ∀m_6,∀t7:Value,∀w:World,J_6 m_6 t7 w→Env →
 rN π Z (Builtin.len_ #[70] 3 #[x0]) w fun t8 w=>
 rN π Z (binOp .lss 3 t7 t8) w fun t9 w=>
 cV t9 (
 False) (
 Q (.bool true) w))
def f162.an:An:=(.q (.q (.sq (.q (.bl (.lp [5,6] (.sq (.q (.c)) .leaf)))) (.sq (.q (.bl (.lp [9] (.sq (.q (.c)) .leaf)))) (.sq .leaf .leaf)))))
theorem f162.calls {Z:PZ} {x0 x1:Value} {w:World} {Q:PQ} (h:f162.sh Z x0 x1 w Q):CallV π Z 162 #[x0,x1] w Q:=
 cl Tryz.func162 f162.an [x0,x1] (by kernel_rfl) (by kernel_rfl) h

def f168.sh (Z:PZ) (x0 x1:Value) (w:World) (Q:PQ):Prop:=
 rN π Z (Instr.makeSlice 30 x1 x1) w fun t1 w=>
 rN π Z (binOp .sub 3 x1 (.int .i64 1)) w fun t2 w=>
 ∃J_3:Nat→Value→PQ,(∃m,J_3 m x0 t2 w) ∧
 ∀m_3,∀t4:Value,∀t5:Value,∀w:World,J_3 m_3 t4 t5 w→Env →
 rN π Z (binOp .geq 3 t5 (.int .i64 0)) w fun t6 w=>
 cV t6 (
 rN π Z (binOp .rem 147 t4 (.int .u64 256)) w fun t7 w=>
 rN π Z (convert 147 5 t7) w fun t8 w=>
 rN π Z (indexAt 30 t1 t5) w fun t9 w=>
 rO π Z (storeAt 5 t9 t8) w fun w=>
 rN π Z (binOp .quo 147 t4 (.int .u64 256)) w fun t10 w=>
 rN π Z (binOp .sub 3 t5 (.int .i64 1)) w fun t11 w=>
 ∃n_3,n_3 < m_3∧J_3 n_3 t10 t11 w) (
 Q t1 w)
def f168.an:An:=(.q (.q (.sq (.q (.bl (.lp [0,6] (.sq (.q (.c)) (.sq (.bl (.sq .leaf .leaf)) .leaf))))) (.sq .leaf .leaf))))
theorem f168.calls {Z:PZ} {x0 x1:Value} {w:World} {Q:PQ} (h:f168.sh Z x0 x1 w Q):CallV π Z 168 #[x0,x1] w Q:=
 cl Tryz.func168 f168.an [x0,x1] (by kernel_rfl) (by kernel_rfl) h

def f169.sh (Z:PZ) (x0 x1:Value) (w:World) (Q:PQ):Prop:=
 CallV π Z 193 #[x0,x1] w fun t1 w=>
 rN π Z (extract t1 0) w fun t2 w=>
 rN π Z (extract t1 1) w fun t3 w=>
 rN π Z (Op.unary .not t3) w fun t4 w=>
 cV t4 (
 Q (.int .u64 0) w) (
 rN π Z (Builtin.len_ #[30] 3 #[t2]) w fun t5 w=>
 ∃J_6:Nat→Value→PQ,(∃m,J_6 m (.int .u64 0) (.int .i64 0) w) ∧
 ∀m_6,∀t7:Value,∀t8:Value,∀w:World,J_6 m_6 t7 t8 w→Env →
 rN π Z (binOp .lss 3 t8 t5) w fun t9 w=>
 cV t9 (
 rN π Z (indexAt 30 t2 t8) w fun t10 w=>
 rN π Z (loadAt 5 t10) w fun t11 w=>
 rN π Z (binOp .shl 147 t7 (.int .u64 8)) w fun t12 w=>
 rN π Z (convert 5 147 t11) w fun t13 w=>
 rN π Z (binOp .or 147 t12 t13) w fun t14 w=>
 rN π Z (binOp .add 3 t8 (.int .i64 1)) w fun t15 w=>
 ∃n_6,n_6 < m_6∧J_6 n_6 t14 t15 w) (
 runX π Z (nilChk x0) w fun t16 w=>
 rN π Z (fieldAt 239 t16 1) w fun t17 w=>
 rN π Z (loadAt 30 t17) w fun t18 w=>
 rN π Z (Instr.sliceAt 30 t18 (some x1) none none) w fun t19 w=>
 runX π Z (nilChk x0) w fun t20 w=>
 rN π Z (fieldAt 239 t20 1) w fun t21 w=>
 rO π Z (storeAt 30 t21 t19) w fun w=>
 Q t7 w))
def f169.an:An:=(.q (.q (.sq (.q (.cn (.sq .leaf .leaf) .leaf)) (.q (.sq (.q (.bl (.lp [7,20] (.q (.sq (.c) (.sq (.bl (.sq .leaf .leaf)) .leaf)))))) (.q (.sq .leaf .leaf)))))))
theorem f169.calls {Z:PZ} {x0 x1:Value} {w:World} {Q:PQ} (h:f169.sh Z x0 x1 w Q):CallV π Z 169 #[x0,x1] w Q:=
 cl Tryz.func169 f169.an [x0,x1] (by kernel_rfl) (by kernel_rfl) h

def f170.sh (Z:PZ) (x0:Value) (w:World) (Q:PQ):Prop:=
 rN π Z (eqOp .eql 136 false true x0 (.pointer none)) w fun t1 w=>
 gW (t1) false (fun k=>k (x0) w) (fun t2 w=>
 gW (t1) false (fun k=>runX π Z (nilChk t2) w k) (fun t3 w=>
 gW (t1) false (fun k=>rN π Z (fieldAt 239 t3 0) w k) (fun t4 w=>
 gW (t1) false (fun k=>rN π Z (loadAt 4 t4) w k) (fun t5 w=>
 gW (t1) false (fun k=>rN π Z (Op.unary .not t5) w k) (fun t6 w=>
 rN π Z (pickV t1 (.bool true) t6) w fun t7 w=>
 Q t7 w) w) w) w) w) w
def f170.an:An:=(.q (.sq .leaf .leaf))
theorem f170.calls {Z:PZ} {x0:Value} {w:World} {Q:PQ} (h:f170.sh Z x0 w Q):CallV π Z 170 #[x0] w Q:=
 cl Tryz.func170 f170.an [x0] (by kernel_rfl) (by kernel_rfl) h

def f171.sh (Z:PZ) (x0:Value) (w:World) (Q:PQ):Prop:=
 CallV π Z 170 #[x0] w fun t1 w=>
 rN π Z (Op.unary .not t1) w fun t2 w=>
 gW (t2) true (fun k=>k (x0) w) (fun t3 w=>
 gW (t2) true (fun k=>runX π Z (nilChk t3) w k) (fun t4 w=>
 gW (t2) true (fun k=>rN π Z (fieldAt 239 t4 2) w k) (fun t5 w=>
 gW (t2) true (fun k=>rN π Z (loadAt 43 t5) w k) (fun t6 w=>
 gW (t2) true (fun k=>rN π Z (eqOp .eql 43 false true t6 (.int .i64 0)) w k) (fun t7 w=>
 rN π Z (pickV t2 t7 (.bool false)) w fun t8 w=>
 Q t8 w) w) w) w) w) w
def f171.an:An:=(.q (.sq .leaf .leaf))
theorem f171.calls {Z:PZ} {x0:Value} {w:World} {Q:PQ} (h:f171.sh Z x0 w Q):CallV π Z 171 #[x0] w Q:=
 cl Tryz.func171 f171.an [x0] (by kernel_rfl) (by kernel_rfl) h

def f172.sh (Z:PZ) (x0 x1:Value) (w:World) (Q:PQ):Prop:=
 rN π Z (Instr.box 35 x0) w fun t1 w=>
 rN π Z (binOp .add 3 x1 (.int .i64 1)) w fun t2 w=>
 rN π Z (fieldAt 35 t1 2) w fun t3 w=>
 rN π Z (loadAt 30 t3) w fun t4 w=>
 rN π Z (Builtin.len_ #[30] 3 #[t4]) w fun t5 w=>
 rN π Z (binOp .add 3 t2 t5) w fun t6 w=>
 rN π Z (fieldAt 35 t1 3) w fun t7 w=>
 rN π Z (loadAt 31 t7) w fun t8 w=>
 rN π Z (Builtin.len_ #[31] 3 #[t8]) w fun t9 w=>
 rN π Z (binOp .add 3 t6 t9) w fun t10 w=>
 rN π Z (fieldAt 35 t1 9) w fun t11 w=>
 rN π Z (loadAt 32 t11) w fun t12 w=>
 rN π Z (Builtin.len_ #[32] 3 #[t12]) w fun t13 w=>
 rN π Z (binOp .add 3 t10 t13) w fun t14 w=>
 ∃J_15:Nat→Value→PQ,(∃m,J_15 m t14 (.int .i64 0) w) ∧
 ∀m_15,∀t16:Value,∀t17:Value,∀w:World,J_15 m_15 t16 t17 w→Env →
 rN π Z (fieldAt 35 t1 10) w fun t18 w=>
 rN π Z (loadAt 33 t18) w fun t19 w=>
 rN π Z (Builtin.len_ #[33] 3 #[t19]) w fun t20 w=>
 rN π Z (binOp .lss 3 t17 t20) w fun t21 w=>
 gW (t21) true (fun k=>k (t16) w) (fun t22 w=>
 gW (t21) true (fun k=>rN π Z (binOp .leq 3 t22 (.int .i64 20000)) w k) (fun t23 w=>
 rN π Z (pickV t21 t23 (.bool false)) w fun t24 w=>
 cV t24 (
 rN π Z (fieldAt 35 t1 10) w fun t25 w=>
 rN π Z (loadAt 33 t25) w fun t26 w=>
 rN π Z (indexAt 33 t26 t17) w fun t27 w=>
 rN π Z (loadAt 35 t27) w fun t28 w=>
 CallV π Z 172 #[t28,t16] w fun t29 w=>
 rN π Z (binOp .add 3 t17 (.int .i64 1)) w fun t30 w=>
 ∃n_15,n_15 < m_15∧J_15 n_15 t29 t30 w) (
 Q t16 w)) w) w
def f172.an:An:=(.q (.q (.sq (.q (.bl (.lp [1,5] (.sq (.q (.c)) (.sq (.bl .leaf) .leaf))))) (.sq .leaf .leaf))))
theorem f172.calls {Z:PZ} {x0 x1:Value} {w:World} {Q:PQ} (h:f172.sh Z x0 x1 w Q):CallV π Z 172 #[x0,x1] w Q:=
 cl Tryz.func172 f172.an [x0,x1] (by kernel_rfl) (by kernel_rfl) h

def f173.sh (Z:PZ) (x0:Value) (w:World) (Q:PQ):Prop:=
 rN π Z (Builtin.len_ #[31] 3 #[x0]) w fun t1 w=>
 rN π Z (binOp .add 3 t1 (.int .i64 64)) w fun t2 w=>
 rN π Z (Instr.makeSlice 31 t2 t2) w fun t3 w=>
 ∃J_4:Nat→PQ,(∃m,J_4 m (.int .i64 0) w) ∧
 ∀m_4,∀t5:Value,∀w:World,J_4 m_4 t5 w→Env →
 rN π Z (Builtin.len_ #[31] 3 #[t3]) w fun t6 w=>
 rN π Z (binOp .lss 3 t5 t6) w fun t7 w=>
 cV t7 (
 ∀j_8:World→Prop,(∀w:World,(Env →
 rN π Z (binOp .add 3 t5 (.int .i64 1)) w fun t9 w=>
 ∃n_4,n_4 < m_4∧J_4 n_4 t9 w) →
 j_8 w) →
 rN π Z (Builtin.len_ #[31] 3 #[x0]) w fun t10 w=>
 rN π Z (binOp .lss 3 t5 t10) w fun t11 w=>
 cV t11 (
 rN π Z (indexAt 31 x0 t5) w fun t12 w=>
 rN π Z (loadAt 178 t12) w fun t13 w=>
 rN π Z (indexAt 31 t3 t5) w fun t14 w=>
 rO π Z (storeAt 178 t14 t13) w fun w=>
 j_8 w) (
 rN π Z (binOp .sub 3 (.int .i64 (-3000000)) t5) w fun t15 w=>
 CallV π Z 143 #[t15] w fun t16 w=>
 rN π Z (Instr.build 175 #[(1,t16)]) w fun t17 w=>
 rN π Z (Instr.build 178 #[(1,t17)]) w fun t18 w=>
 rN π Z (indexAt 31 t3 t5) w fun t19 w=>
 rO π Z (storeAt 178 t19 t18) w fun w=>
 j_8 w)) (
 rN π Z (Builtin.len_ #[31] 3 #[x0]) w fun t20 w=>
 rN π Z (Instr.sliceAt 31 t3 none (some t20) none) w fun t21 w=>
 Q t21 w)
def f173.an:An:=(.q (.q (.sq (.q (.bl (.lp [4] (.sq (.q (.c)) (.sj [] (.bl (.q (.c))) .leaf))))) (.sq .leaf .leaf))))
theorem f173.calls {Z:PZ} {x0:Value} {w:World} {Q:PQ} (h:f173.sh Z x0 w Q):CallV π Z 173 #[x0] w Q:=
 cl Tryz.func173 f173.an [x0] (by kernel_rfl) (by kernel_rfl) h

def f174.sh (Z:PZ) (x0:Value) (w:World) (Q:PQ):Prop:=
 rN π Z (Builtin.len_ #[32] 3 #[x0]) w fun t1 w=>
 rN π Z (binOp .add 3 t1 (.int .i64 64)) w fun t2 w=>
 rN π Z (Instr.makeSlice 32 t2 t2) w fun t3 w=>
 ∃J_4:Nat→PQ,(∃m,J_4 m (.int .i64 0) w) ∧
 ∀m_4,∀t5:Value,∀w:World,J_4 m_4 t5 w→Env →
 rN π Z (Builtin.len_ #[32] 3 #[t3]) w fun t6 w=>
 rN π Z (binOp .lss 3 t5 t6) w fun t7 w=>
 cV t7 (
 ∀j_8:World→Prop,(∀w:World,(Env →
 rN π Z (binOp .add 3 t5 (.int .i64 1)) w fun t9 w=>
 ∃n_4,n_4 < m_4∧J_4 n_4 t9 w) →
 j_8 w) →
 rN π Z (Builtin.len_ #[32] 3 #[x0]) w fun t10 w=>
 rN π Z (binOp .lss 3 t5 t10) w fun t11 w=>
 cV t11 (
 rN π Z (indexAt 32 x0 t5) w fun t12 w=>
 rN π Z (loadAt 175 t12) w fun t13 w=>
 rN π Z (indexAt 32 t3 t5) w fun t14 w=>
 rO π Z (storeAt 175 t14 t13) w fun w=>
 j_8 w) (
 rN π Z (binOp .sub 3 (.int .i64 (-3000000)) t5) w fun t15 w=>
 CallV π Z 143 #[t15] w fun t16 w=>
 rN π Z (Instr.build 175 #[(1,t16)]) w fun t17 w=>
 rN π Z (indexAt 32 t3 t5) w fun t18 w=>
 rO π Z (storeAt 175 t18 t17) w fun w=>
 j_8 w)) (
 rN π Z (Builtin.len_ #[32] 3 #[x0]) w fun t19 w=>
 rN π Z (Instr.sliceAt 32 t3 none (some t19) none) w fun t20 w=>
 Q t20 w)
def f174.an:An:=(.q (.q (.sq (.q (.bl (.lp [4] (.sq (.q (.c)) (.sj [] (.bl (.q (.c))) .leaf))))) (.sq .leaf .leaf))))
theorem f174.calls {Z:PZ} {x0:Value} {w:World} {Q:PQ} (h:f174.sh Z x0 w Q):CallV π Z 174 #[x0] w Q:=
 cl Tryz.func174 f174.an [x0] (by kernel_rfl) (by kernel_rfl) h

def f175.sh (Z:PZ) (x0:Value) (w:World) (Q:PQ):Prop:=
 rN π Z (Builtin.len_ #[33] 3 #[x0]) w fun t1 w=>
 rN π Z (binOp .add 3 t1 (.int .i64 64)) w fun t2 w=>
 rN π Z (Instr.makeSlice 33 t2 t2) w fun t3 w=>
 ∃J_4:Nat→PQ,(∃m,J_4 m (.int .i64 0) w) ∧
 ∀m_4,∀t5:Value,∀w:World,J_4 m_4 t5 w→Env →
 rN π Z (Builtin.len_ #[33] 3 #[t3]) w fun t6 w=>
 rN π Z (binOp .lss 3 t5 t6) w fun t7 w=>
 cV t7 (
 ∀j_8:World→Prop,(∀w:World,(Env →
 rN π Z (binOp .add 3 t5 (.int .i64 1)) w fun t9 w=>
 ∃n_4,n_4 < m_4∧J_4 n_4 t9 w) →
 j_8 w) →
 rN π Z (Builtin.len_ #[33] 3 #[x0]) w fun t10 w=>
 rN π Z (binOp .lss 3 t5 t10) w fun t11 w=>
 cV t11 (
 rN π Z (indexAt 33 x0 t5) w fun t12 w=>
 rN π Z (loadAt 35 t12) w fun t13 w=>
 CallV π Z 80 #[t13] w fun t14 w=>
 rN π Z (indexAt 33 t3 t5) w fun t15 w=>
 rO π Z (storeAt 35 t15 t14) w fun w=>
 j_8 w) (
 rN π Z (binOp .sub 3 (.int .i64 (-3000000)) t5) w fun t16 w=>
 rN π Z (Instr.build 35 #[(7,t16)]) w fun t17 w=>
 rN π Z (indexAt 33 t3 t5) w fun t18 w=>
 rO π Z (storeAt 35 t18 t17) w fun w=>
 j_8 w)) (
 rN π Z (Builtin.len_ #[33] 3 #[x0]) w fun t19 w=>
 rN π Z (Instr.sliceAt 33 t3 none (some t19) none) w fun t20 w=>
 Q t20 w)
def f175.an:An:=(.q (.q (.sq (.q (.bl (.lp [4] (.sq (.q (.c)) (.sj [] (.bl (.q (.c))) .leaf))))) (.sq .leaf .leaf))))
theorem f175.calls {Z:PZ} {x0:Value} {w:World} {Q:PQ} (h:f175.sh Z x0 w Q):CallV π Z 175 #[x0] w Q:=
 cl Tryz.func175 f175.an [x0] (by kernel_rfl) (by kernel_rfl) h

def f176.sh (Z:PZ) (x0 x1:Value) (w:World) (Q:PQ):Prop:=
 CallV π Z 70 #[x0] w fun t1 w=>
 CallV π Z 70 #[x1] w fun t2 w=>
 CallV π Z 72 #[t1,t2] w fun t3 w=>
 Q t3 w
def f176.an:An:=(.q (.q (.q (.sq .leaf .leaf))))
theorem f176.calls {Z:PZ} {x0 x1:Value} {w:World} {Q:PQ} (h:f176.sh Z x0 x1 w Q):CallV π Z 176 #[x0,x1] w Q:=
 cl Tryz.func176 f176.an [x0,x1] (by kernel_rfl) (by kernel_rfl) h

def f177.sh (Z:PZ) (x0:Value) (w:World) (Q:PQ):Prop:=
 rN π Z (binOp .geq 2 x0 (.int .i64 0)) w fun t1 w=>
 cV t1 (
 rN π Z (convert 2 147 x0) w fun t2 w=>
 CallV π Z 168 #[t2,(.int .i64 8)] w fun t3 w=>
 Q t3 w) (
 rN π Z (binOp .sub 2 (.int .i64 (-1)) x0) w fun t4 w=>
 rN π Z (convert 2 147 t4) w fun t5 w=>
 CallV π Z 168 #[t5,(.int .i64 8)] w fun t6 w=>
 ∃J_7:Nat→PQ,(∃m,J_7 m (.int .i64 0) w) ∧
 ∀m_7,∀t8:Value,∀w:World,J_7 m_7 t8 w→Env →
 rN π Z (Builtin.len_ #[30] 3 #[t6]) w fun t9 w=>
 rN π Z (binOp .lss 3 t8 t9) w fun t10 w=>
 cV t10 (
 rN π Z (indexAt 30 t6 t8) w fun t11 w=>
 rN π Z (loadAt 5 t11) w fun t12 w=>
 rN π Z (binOp .sub 5 (.int .u8 255) t12) w fun t13 w=>
 rN π Z (indexAt 30 t6 t8) w fun t14 w=>
 rO π Z (storeAt 5 t14 t13) w fun w=>
 rN π Z (binOp .add 3 t8 (.int .i64 1)) w fun t15 w=>
 ∃n_7,n_7 < m_7∧J_7 n_7 t15 w) (
 Q t6 w))
def f177.an:An:=(.q (.sq (.q (.cn (.sq .leaf .leaf) .leaf)) (.q (.sq (.q (.bl (.lp [4] (.sq (.q (.c)) (.sq (.bl .leaf) .leaf))))) (.sq .leaf .leaf)))))
theorem f177.calls {Z:PZ} {x0:Value} {w:World} {Q:PQ} (h:f177.sh Z x0 w Q):CallV π Z 177 #[x0] w Q:=
 cl Tryz.func177 f177.an [x0] (by kernel_rfl) (by kernel_rfl) h

def f178.sh (Z:PZ) (x0:Value) (w:World) (Q:PQ):Prop:=
 cV x0 (
 rN π Z (Instr.buildSlice 30 1 #[(0,(.int .u8 1))]) w fun t1 w=>
 Q t1 w) (
 rN π Z (Instr.buildSlice 30 1 #[(0,(.int .u8 0))]) w fun t2 w=>
 Q t2 w)
def f178.an:An:=(.q (.sq (.q (.cn (.sq .leaf .leaf) .leaf)) (.sq .leaf .leaf)))
theorem f178.calls {Z:PZ} {x0:Value} {w:World} {Q:PQ} (h:f178.sh Z x0 w Q):CallV π Z 178 #[x0] w Q:=
 cl Tryz.func178 f178.an [x0] (by kernel_rfl) (by kernel_rfl) h

def f179.sh (Z:PZ) (x0:Value) (w:World) (Q:PQ):Prop:=
 rN π Z (Instr.box 37 x0) w fun t1 w=>
 rN π Z (loadAt 37 t1) w fun t2 w=>
 CallV π Z 42 #[t2] w fun t3 w=>
 rN π Z (eqOp .neq 43 false true t3 (.int .i64 0)) w fun t4 w=>
 cV t4 (
 Q (Value.tuple #[(.slice none 0 0),(.int .i64 40)]) w) (
 rN π Z (fieldAt 37 t1 0) w fun t5 w=>
 rN π Z (fieldAt 27 t5 0) w fun t6 w=>
 rN π Z (loadAt 23 t6) w fun t7 w=>
 CallV π Z 70 #[t7] w fun t8 w=>
 rN π Z (fieldAt 37 t1 0) w fun t9 w=>
 rN π Z (fieldAt 27 t9 1) w fun t10 w=>
 rN π Z (loadAt 23 t10) w fun t11 w=>
 CallV π Z 70 #[t11] w fun t12 w=>
 CallV π Z 214 #[t8,t12] w fun t13 w=>
 rN π Z (fieldAt 37 t1 1) w fun t14 w=>
 rN π Z (fieldAt 29 t14 0) w fun t15 w=>
 rN π Z (loadAt 22 t15) w fun t16 w=>
 CallV π Z 81 #[t16] w fun t17 w=>
 CallV π Z 214 #[t13,t17] w fun t18 w=>
 rN π Z (fieldAt 37 t1 1) w fun t19 w=>
 rN π Z (fieldAt 29 t19 1) w fun t20 w=>
 rN π Z (loadAt 23 t20) w fun t21 w=>
 CallV π Z 70 #[t21] w fun t22 w=>
 CallV π Z 214 #[t18,t22] w fun t23 w=>
 rN π Z (fieldAt 37 t1 1) w fun t24 w=>
 rN π Z (fieldAt 29 t24 2) w fun t25 w=>
 rN π Z (loadAt 2 t25) w fun t26 w=>
 CallV π Z 177 #[t26] w fun t27 w=>
 CallV π Z 214 #[t23,t27] w fun t28 w=>
 rN π Z (fieldAt 37 t1 2) w fun t29 w=>
 rN π Z (loadAt 35 t29) w fun t30 w=>
 CallV π Z 215 #[t28,t30,(.bool false)] w fun t31 w=>
 Q (Value.tuple #[t31,(.int .i64 0)]) w)
def f179.an:An:=(.q (.sq (.q (.cn (.sq .leaf .leaf) .leaf)) (.q (.q (.q (.q (.q (.sq .leaf .leaf))))))))
theorem f179.calls {Z:PZ} {x0:Value} {w:World} {Q:PQ} (h:f179.sh Z x0 w Q):CallV π Z 179 #[x0] w Q:=
 cl Tryz.func179 f179.an [x0] (by kernel_rfl) (by kernel_rfl) h

def f180.sh (Z:PZ) (x0:Value) (w:World) (Q:PQ):Prop:=
 rN π Z (Builtin.len_ #[30] 3 #[x0]) w fun t1 w=>
 rN π Z (convert 3 21 t1) w fun t2 w=>
 CallV π Z 216 #[t2] w fun t3 w=>
 ∃J_4:Nat→Value→PQ,(∃m,J_4 m t3 (.int .i64 0) w) ∧
 ∀m_4,∀t5:Value,∀t6:Value,∀w:World,J_4 m_4 t5 t6 w→Env →
 rN π Z (Builtin.len_ #[30] 3 #[x0]) w fun t7 w=>
 rN π Z (binOp .lss 3 t6 t7) w fun t8 w=>
 cV t8 (
 rN π Z (indexAt 30 x0 t6) w fun t9 w=>
 rN π Z (loadAt 5 t9) w fun t10 w=>
 rN π Z (Instr.buildSlice 30 1 #[(0,t10)]) w fun t11 w=>
 rN π Z (Builtin.append_ #[30,30] 30 #[t5,t11]) w fun t12 w=>
 rN π Z (binOp .add 3 t6 (.int .i64 1)) w fun t13 w=>
 ∃n_4,n_4 < m_4∧J_4 n_4 t12 t13 w) (
 Q t5 w)
def f180.an:An:=(.q (.q (.sq (.q (.bl (.lp [3,4] (.sq (.q (.c)) (.sq (.bl .leaf) .leaf))))) (.sq .leaf .leaf))))
theorem f180.calls {Z:PZ} {x0:Value} {w:World} {Q:PQ} (h:f180.sh Z x0 w Q):CallV π Z 180 #[x0] w Q:=
 cl Tryz.func180 f180.an [x0] (by kernel_rfl) (by kernel_rfl) h

def f181.sh (Z:PZ) (x0 x1:Value) (w:World) (Q:PQ):Prop:=
 runX π Z (nilChk x1) w fun t1 w=>
 rN π Z (fieldAt 39 t1 1) w fun t2 w=>
 rN π Z (loadAt 25 t2) w fun t3 w=>
 CallV π Z 182 #[x0,t3] w fun t4 w=>
 Q (Value.tuple #[]) w
def f181.an:An:=.leaf
theorem f181.calls {Z:PZ} {x0 x1:Value} {w:World} {Q:PQ} (h:f181.sh Z x0 x1 w Q):CallV π Z 181 #[x0,x1] w Q:=
 cl Tryz.func181 f181.an [x0,x1] (by kernel_rfl) (by kernel_rfl) h

def f182.sh (Z:PZ) (x0 x1:Value) (w:World) (Q:PQ):Prop:=
 rN π Z (Instr.box 25 x1) w fun t1 w=>
 rN π Z (fieldAt 25 t1 0) w fun t2 w=>
 rN π Z (loadAt 23 t2) w fun t3 w=>
 CallV π Z 33 #[x0,t3] w fun t4 w=>
 rN π Z (fieldAt 25 t1 1) w fun t5 w=>
 rN π Z (loadAt 23 t5) w fun t6 w=>
 CallV π Z 33 #[x0,t6] w fun t7 w=>
 Q (Value.tuple #[]) w
def f182.an:An:=(.q (.sq .leaf .leaf))
theorem f182.calls {Z:PZ} {x0 x1:Value} {w:World} {Q:PQ} (h:f182.sh Z x0 x1 w Q):CallV π Z 182 #[x0,x1] w Q:=
 cl Tryz.func182 f182.an [x0,x1] (by kernel_rfl) (by kernel_rfl) h

def f183.sh (Z:PZ) (x0 x1:Value) (w:World) (Q:PQ):Prop:=
 CallV π Z 184 #[x0] w fun t1 w=>
 runX π Z (nilChk x1) w fun t2 w=>
 rN π Z (fieldAt 39 t2 1) w fun t3 w=>
 rO π Z (storeAt 25 t3 t1) w fun w=>
 Q (Value.tuple #[]) w
def f183.an:An:=.leaf
theorem f183.calls {Z:PZ} {x0 x1:Value} {w:World} {Q:PQ} (h:f183.sh Z x0 x1 w Q):CallV π Z 183 #[x0,x1] w Q:=
 cl Tryz.func183 f183.an [x0,x1] (by kernel_rfl) (by kernel_rfl) h

def f184.sh (Z:PZ) (x0:Value) (w:World) (Q:PQ):Prop:=
 rN π Z (Instr.alloc 25 true (.tuple #[])) w fun t1 w=>
 CallV π Z 75 #[x0] w fun t2 w=>
 CallV π Z 75 #[x0] w fun t3 w=>
 rN π Z (Instr.build 25 #[(0,t2),(1,t3)]) w fun t4 w=>
 rO π Z (storeAt 25 t1 t4) w fun w=>
 ∃r_5,(do loadVar 25 (← asAddr t1):Sem Value).run π w=.ok r_5 w ∧
 Q r_5 w
def f184.an:An:=(.q (.sq .leaf .leaf))
theorem f184.calls {Z:PZ} {x0:Value} {w:World} {Q:PQ} (h:f184.sh Z x0 w Q):CallV π Z 184 #[x0] w Q:=
 cl Tryz.func184 f184.an [x0] (by kernel_rfl) (by kernel_rfl) h

def f185.sh (Z:PZ) (x0:Value) (w:World) (Q:PQ):Prop:=
 runX π Z (nilChk x0) w fun t1 w=>
 rN π Z (fieldAt 39 t1 1) w fun t2 w=>
 rN π Z (loadAt 25 t2) w fun t3 w=>
 CallV π Z 186 #[t3] w fun t4 w=>
 Q t4 w
def f185.an:An:=(.q (.sq .leaf .leaf))
theorem f185.calls {Z:PZ} {x0:Value} {w:World} {Q:PQ} (h:f185.sh Z x0 w Q):CallV π Z 185 #[x0] w Q:=
 cl Tryz.func185 f185.an [x0] (by kernel_rfl) (by kernel_rfl) h

def f186.sh (Z:PZ) (x0:Value) (w:World) (Q:PQ):Prop:=
 rN π Z (Instr.box 25 x0) w fun t1 w=>
 rN π Z (fieldAt 25 t1 0) w fun t2 w=>
 rN π Z (loadAt 23 t2) w fun t3 w=>
 rN π Z (binOp .gtr 23 t3 (.int .u32 0)) w fun t4 w=>
 gW (t4) true (fun k=>rN π Z (fieldAt 25 t1 1) w k) (fun t5 w=>
 gW (t4) true (fun k=>rN π Z (loadAt 23 t5) w k) (fun t6 w=>
 gW (t4) true (fun k=>rN π Z (binOp .gtr 23 t6 (.int .u32 0)) w k) (fun t7 w=>
 rN π Z (pickV t4 t7 (.bool false)) w fun t8 w=>
 Q t8 w) w) w) w
def f186.an:An:=(.q (.sq .leaf .leaf))
theorem f186.calls {Z:PZ} {x0:Value} {w:World} {Q:PQ} (h:f186.sh Z x0 w Q):CallV π Z 186 #[x0] w Q:=
 cl Tryz.func186 f186.an [x0] (by kernel_rfl) (by kernel_rfl) h

def f187.sh (Z:PZ) (x0 x1:Value) (w:World) (Q:PQ):Prop:=
 runX π Z (nilChk x1) w fun t1 w=>
 rN π Z (fieldAt 39 t1 2) w fun t2 w=>
 rN π Z (loadAt 25 t2) w fun t3 w=>
 CallV π Z 182 #[x0,t3] w fun t4 w=>
 Q (Value.tuple #[]) w
def f187.an:An:=.leaf
theorem f187.calls {Z:PZ} {x0 x1:Value} {w:World} {Q:PQ} (h:f187.sh Z x0 x1 w Q):CallV π Z 187 #[x0,x1] w Q:=
 cl Tryz.func187 f187.an [x0,x1] (by kernel_rfl) (by kernel_rfl) h

def f188.sh (Z:PZ) (x0 x1:Value) (w:World) (Q:PQ):Prop:=
 CallV π Z 184 #[x0] w fun t1 w=>
 runX π Z (nilChk x1) w fun t2 w=>
 rN π Z (fieldAt 39 t2 2) w fun t3 w=>
 rO π Z (storeAt 25 t3 t1) w fun w=>
 Q (Value.tuple #[]) w
def f188.an:An:=.leaf
theorem f188.calls {Z:PZ} {x0 x1:Value} {w:World} {Q:PQ} (h:f188.sh Z x0 x1 w Q):CallV π Z 188 #[x0,x1] w Q:=
 cl Tryz.func188 f188.an [x0,x1] (by kernel_rfl) (by kernel_rfl) h

def f189.sh (Z:PZ) (x0:Value) (w:World) (Q:PQ):Prop:=
 runX π Z (nilChk x0) w fun t1 w=>
 rN π Z (fieldAt 39 t1 2) w fun t2 w=>
 rN π Z (loadAt 25 t2) w fun t3 w=>
 CallV π Z 186 #[t3] w fun t4 w=>
 Q t4 w
def f189.an:An:=(.q (.sq .leaf .leaf))
theorem f189.calls {Z:PZ} {x0:Value} {w:World} {Q:PQ} (h:f189.sh Z x0 w Q):CallV π Z 189 #[x0] w Q:=
 cl Tryz.func189 f189.an [x0] (by kernel_rfl) (by kernel_rfl) h

def f190.sh (Z:PZ) (x0 x1:Value) (w:World) (Q:PQ):Prop:=
 runX π Z (nilChk x1) w fun t1 w=>
 rN π Z (fieldAt 39 t1 3) w fun t2 w=>
 rN π Z (loadAt 2 t2) w fun t3 w=>
 CallV π Z 116 #[x0,t3] w fun t4 w=>
 Q (Value.tuple #[]) w
def f190.an:An:=.leaf
theorem f190.calls {Z:PZ} {x0 x1:Value} {w:World} {Q:PQ} (h:f190.sh Z x0 x1 w Q):CallV π Z 190 #[x0,x1] w Q:=
 cl Tryz.func190 f190.an [x0,x1] (by kernel_rfl) (by kernel_rfl) h

def f191.sh (Z:PZ) (x0 x1:Value) (w:World) (Q:PQ):Prop:=
 CallV π Z 118 #[x0] w fun t1 w=>
 runX π Z (nilChk x1) w fun t2 w=>
 rN π Z (fieldAt 39 t2 3) w fun t3 w=>
 rO π Z (storeAt 2 t3 t1) w fun w=>
 Q (Value.tuple #[]) w
def f191.an:An:=.leaf
theorem f191.calls {Z:PZ} {x0 x1:Value} {w:World} {Q:PQ} (h:f191.sh Z x0 x1 w Q):CallV π Z 191 #[x0,x1] w Q:=
 cl Tryz.func191 f191.an [x0,x1] (by kernel_rfl) (by kernel_rfl) h

def f192.sh (Z:PZ) (x0:Value) (w:World) (Q:PQ):Prop:=
 runX π Z (nilChk x0) w fun t1 w=>
 rN π Z (fieldAt 39 t1 3) w fun t2 w=>
 rN π Z (loadAt 2 t2) w fun t3 w=>
 rN π Z (binOp .geq 2 t3 (.int .i64 0)) w fun t4 w=>
 Q t4 w
def f192.an:An:=(.q (.sq .leaf .leaf))
theorem f192.calls {Z:PZ} {x0:Value} {w:World} {Q:PQ} (h:f192.sh Z x0 w Q):CallV π Z 192 #[x0] w Q:=
 cl Tryz.func192 f192.an [x0] (by kernel_rfl) (by kernel_rfl) h

def f193.sh (Z:PZ) (x0 x1:Value) (w:World) (Q:PQ):Prop:=
 CallV π Z 171 #[x0] w fun t1 w=>
 rN π Z (Op.unary .not t1) w fun t2 w=>
 cV t2 (
 Q (Value.tuple #[(.slice none 0 0),(.bool false)]) w) (
 runX π Z (nilChk x0) w fun t3 w=>
 rN π Z (fieldAt 239 t3 1) w fun t4 w=>
 rN π Z (loadAt 30 t4) w fun t5 w=>
 rN π Z (Builtin.len_ #[30] 3 #[t5]) w fun t6 w=>
 rN π Z (binOp .lss 3 t6 x1) w fun t7 w=>
 cV t7 (
 runX π Z (nilChk x0) w fun t8 w=>
 rN π Z (fieldAt 239 t8 2) w fun t9 w=>
 rO π Z (storeAt 43 t9 (.int .i64 10)) w fun w=>
 Q (Value.tuple #[(.slice none 0 0),(.bool false)]) w) (
 runX π Z (nilChk x0) w fun t10 w=>
 rN π Z (fieldAt 239 t10 1) w fun t11 w=>
 rN π Z (loadAt 30 t11) w fun t12 w=>
 rN π Z (Instr.sliceAt 30 t12 none (some x1) (some x1)) w fun t13 w=>
 Q (Value.tuple #[t13,(.bool true)]) w))
def f193.an:An:=(.q (.sq (.q (.cn (.sq .leaf .leaf) .leaf)) (.sq (.q (.cn (.q (.sq .leaf .leaf)) .leaf)) (.sq .leaf .leaf))))
theorem f193.calls {Z:PZ} {x0 x1:Value} {w:World} {Q:PQ} (h:f193.sh Z x0 x1 w Q):CallV π Z 193 #[x0,x1] w Q:=
 cl Tryz.func193 f193.an [x0,x1] (by kernel_rfl) (by kernel_rfl) h

def f194.sh (Z:PZ) (x0:Value) (w:World) (Q:PQ):Prop:=
 rN π Z (Instr.box 37 x0) w fun t1 w=>
 rN π Z (loadAt 37 t1) w fun t2 w=>
 CallV π Z 196 #[t2] w fun t3 w=>
 rN π Z (eqOp .neq 43 false true t3 (.int .i64 0)) w fun t4 w=>
 cV t4 (
 Q (Value.tuple #[(.slice none 0 0),(.int .i64 40)]) w) (
 rN π Z (Instr.build 88 #[]) w fun t5 w=>
 rN π Z (Instr.box 88 t5) w fun t6 w=>
 rN π Z (fieldAt 37 t1 0) w fun t7 w=>
 rN π Z (fieldAt 27 t7 0) w fun t8 w=>
 rN π Z (loadAt 23 t8) w fun t9 w=>
 CallV π Z 33 #[t6,t9] w fun t10 w=>
 rN π Z (fieldAt 37 t1 0) w fun t11 w=>
 rN π Z (fieldAt 27 t11 1) w fun t12 w=>
 rN π Z (loadAt 23 t12) w fun t13 w=>
 CallV π Z 33 #[t6,t13] w fun t14 w=>
 rN π Z (fieldAt 37 t1 1) w fun t15 w=>
 rN π Z (fieldAt 29 t15 0) w fun t16 w=>
 rN π Z (loadAt 22 t16) w fun t17 w=>
 CallV π Z 30 #[t6,t17] w fun t18 w=>
 rN π Z (fieldAt 37 t1 1) w fun t19 w=>
 rN π Z (fieldAt 29 t19 1) w fun t20 w=>
 rN π Z (loadAt 23 t20) w fun t21 w=>
 CallV π Z 33 #[t6,t21] w fun t22 w=>
 rN π Z (fieldAt 37 t1 1) w fun t23 w=>
 rN π Z (fieldAt 29 t23 2) w fun t24 w=>
 rN π Z (loadAt 2 t24) w fun t25 w=>
 CallV π Z 116 #[t6,t25] w fun t26 w=>
 rN π Z (Instr.build 267 #[]) w fun t27 w=>
 rN π Z (fieldAt 37 t1 2) w fun t28 w=>
 rN π Z (loadAt 35 t28) w fun t29 w=>
 CallV π Z 217 #[t27,t6,t29] w fun t30 w=>
 CallV π Z 32 #[t6] w fun t31 w=>
 Q (Value.tuple #[t31,(.int .i64 0)]) w)
def f194.an:An:=(.q (.sq (.q (.cn (.sq .leaf .leaf) .leaf)) (.q (.q (.q (.q (.q (.q (.q (.sq .leaf .leaf))))))))))
theorem f194.calls {Z:PZ} {x0:Value} {w:World} {Q:PQ} (h:f194.sh Z x0 w Q):CallV π Z 194 #[x0] w Q:=
 cl Tryz.func194 f194.an [x0] (by kernel_rfl) (by kernel_rfl) h

def f195.sh (Z:PZ) (x0:Value) (w:World) (Q:PQ):Prop:=
 rN π Z (Instr.alloc 37 true (.tuple #[])) w fun t1 w=>
 CallV π Z 74 #[x0] w fun t2 w=>
 rN π Z (Instr.alloc 37 true (.tuple #[])) w fun t3 w=>
 CallV π Z 75 #[t2] w fun t4 w=>
 rN π Z (fieldAt 37 t3 0) w fun t5 w=>
 rN π Z (fieldAt 27 t5 0) w fun t6 w=>
 rO π Z (storeAt 23 t6 t4) w fun w=>
 CallV π Z 75 #[t2] w fun t7 w=>
 rN π Z (fieldAt 37 t3 0) w fun t8 w=>
 rN π Z (fieldAt 27 t8 1) w fun t9 w=>
 rO π Z (storeAt 23 t9 t7) w fun w=>
 CallV π Z 77 #[t2] w fun t10 w=>
 rN π Z (fieldAt 37 t3 1) w fun t11 w=>
 rN π Z (fieldAt 29 t11 0) w fun t12 w=>
 rO π Z (storeAt 22 t12 t10) w fun w=>
 CallV π Z 75 #[t2] w fun t13 w=>
 rN π Z (fieldAt 37 t3 1) w fun t14 w=>
 rN π Z (fieldAt 29 t14 1) w fun t15 w=>
 rO π Z (storeAt 23 t15 t13) w fun w=>
 CallV π Z 118 #[t2] w fun t16 w=>
 rN π Z (fieldAt 37 t3 1) w fun t17 w=>
 rN π Z (fieldAt 29 t17 2) w fun t18 w=>
 rO π Z (storeAt 2 t18 t16) w fun w=>
 rN π Z (Instr.build 267 #[]) w fun t19 w=>
 CallV π Z 218 #[t19,t2] w fun t20 w=>
 rN π Z (fieldAt 37 t3 2) w fun t21 w=>
 rO π Z (storeAt 35 t21 t20) w fun w=>
 CallV π Z 78 #[t2] w fun t22 w=>
 rN π Z (eqOp .neq 43 false true t22 (.int .i64 0)) w fun t23 w=>
 gW (t23) false (fun k=>rN π Z (loadAt 37 t3) w k) (fun t24 w=>
 gW (t23) false (fun k=>CallV π Z 196 #[t24] w k) (fun t25 w=>
 gW (t23) false (fun k=>rN π Z (eqOp .neq 43 false true t25 (.int .i64 0)) w k) (fun t26 w=>
 rN π Z (pickV t23 (.bool true) t26) w fun t27 w=>
 cV t27 (
 rN π Z (Instr.build 37 #[]) w fun t28 w=>
 rO π Z (storeAt 37 t1 t28) w fun w=>
 ∃r_29,(do loadVar 37 (← asAddr t1):Sem Value).run π w=.ok r_29 w ∧
 Q (Value.tuple #[r_29,(.int .i64 40)]) w) (
 rN π Z (loadAt 37 t3) w fun t30 w=>
 rO π Z (storeAt 37 t1 t30) w fun w=>
 ∃r_31,(do loadVar 37 (← asAddr t1):Sem Value).run π w=.ok r_31 w ∧
 Q (Value.tuple #[r_31,(.int .i64 0)]) w)) w) w) w
def f195.an:An:=(.q (.q (.q (.q (.q (.q (.q (.q (.q (.sq (.q (.cn (.sq .leaf .leaf) .leaf)) (.sq .leaf .leaf)))))))))))
theorem f195.calls {Z:PZ} {x0:Value} {w:World} {Q:PQ} (h:f195.sh Z x0 w Q):CallV π Z 195 #[x0] w Q:=
 cl Tryz.func195 f195.an [x0] (by kernel_rfl) (by kernel_rfl) h

def f196.sh (Z:PZ) (x0:Value) (w:World) (Q:PQ):Prop:=
 rN π Z (Instr.box 37 x0) w fun t1 w=>
 rN π Z (fieldAt 37 t1 0) w fun t2 w=>
 rN π Z (loadAt 27 t2) w fun t3 w=>
 rN π Z (Instr.alloc 27 true (.tuple #[])) w fun t4 w=>
 rO π Z (storeAt 27 t4 t3) w fun w=>
 rN π Z (fieldAt 27 t4 0) w fun t5 w=>
 rN π Z (loadAt 23 t5) w fun t6 w=>
 rN π Z (binOp .geq 23 t6 (.int .u32 1)) w fun t7 w=>
 gW (t7) true (fun k=>rN π Z (fieldAt 27 t4 0) w k) (fun t8 w=>
 gW (t7) true (fun k=>rN π Z (loadAt 23 t8) w k) (fun t9 w=>
 gW (t7) true (fun k=>rN π Z (binOp .leq 23 t9 (.int .u32 2147483647)) w k) (fun t10 w=>
 rN π Z (pickV t7 t10 (.bool false)) w fun t11 w=>
 gW (t11) true (fun k=>rN π Z (fieldAt 27 t4 1) w k) (fun t12 w=>
 gW (t11) true (fun k=>rN π Z (loadAt 23 t12) w k) (fun t13 w=>
 gW (t11) true (fun k=>rN π Z (binOp .geq 23 t13 (.int .u32 1)) w k) (fun t14 w=>
 rN π Z (pickV t11 t14 (.bool false)) w fun t15 w=>
 rN π Z (loadAt 27 t4) w fun t16 w=>
 rN π Z (Instr.build 27 #[]) w fun t17 w=>
 rN π Z (eqOp .neq 27 false false t16 t17) w fun t18 w=>
 gW (t18) true (fun k=>k (t15) w) (fun t19 w=>
 gW (t18) true (fun k=>rN π Z (Op.unary .not t19) w k) (fun t20 w=>
 rN π Z (pickV t18 t20 (.bool false)) w fun t21 w=>
 cV t21 (
 Q (.int .i64 40) w) (
 rN π Z (fieldAt 37 t1 1) w fun t22 w=>
 rN π Z (fieldAt 29 t22 0) w fun t23 w=>
 rN π Z (loadAt 22 t23) w fun t24 w=>
 rN π Z (binOp .lss 22 t24 (.int .i8 0)) w fun t25 w=>
 gW (t25) false (fun k=>rN π Z (fieldAt 37 t1 1) w k) (fun t26 w=>
 gW (t25) false (fun k=>rN π Z (fieldAt 29 t26 0) w k) (fun t27 w=>
 gW (t25) false (fun k=>rN π Z (loadAt 22 t27) w k) (fun t28 w=>
 gW (t25) false (fun k=>rN π Z (binOp .geq 22 t28 (.int .i8 7)) w k) (fun t29 w=>
 rN π Z (pickV t25 (.bool true) t29) w fun t30 w=>
 gW (t30) false (fun k=>rN π Z (fieldAt 37 t1 1) w k) (fun t31 w=>
 gW (t30) false (fun k=>rN π Z (fieldAt 29 t31 2) w k) (fun t32 w=>
 gW (t30) false (fun k=>rN π Z (loadAt 2 t32) w k) (fun t33 w=>
 gW (t30) false (fun k=>rN π Z (binOp .lss 2 t33 (.int .i64 0)) w k) (fun t34 w=>
 rN π Z (pickV t30 (.bool true) t34) w fun t35 w=>
 cV t35 (
 Q (.int .i64 40) w) (
 rN π Z (fieldAt 37 t1 2) w fun t36 w=>
 rN π Z (fieldAt 35 t36 0) w fun t37 w=>
 rN π Z (loadAt 22 t37) w fun t38 w=>
 rN π Z (binOp .gtr 22 t38 (.int .i8 8)) w fun t39 w=>
 cV t39 (
 Q (.int .i64 40) w) (
 rN π Z (fieldAt 37 t1 2) w fun t40 w=>
 rN π Z (loadAt 35 t40) w fun t41 w=>
 CallV π Z 219 #[t41] w fun t42 w=>
 Q t42 w))) w) w) w) w) w) w) w) w)) w) w) w) w) w) w) w) w
def f196.an:An:=(.q (.q (.q (.sq (.bl (.q (.cn (.sq .leaf .leaf) (.q (.cn (.sq .leaf .leaf) (.q (.cn (.sq .leaf .leaf) .leaf))))))) (.sq .leaf .leaf)))))
theorem f196.calls {Z:PZ} {x0:Value} {w:World} {Q:PQ} (h:f196.sh Z x0 w Q):CallV π Z 196 #[x0] w Q:=
 cl Tryz.func196 f196.an [x0] (by kernel_rfl) (by kernel_rfl) h

def f197.sh (Z:PZ) (x0 x1:Value) (w:World) (Q:PQ):Prop:=
 rN π Z (Instr.box 27 x0) w fun t1 w=>
 rN π Z (Instr.box 27 x1) w fun t2 w=>
 Drawn w fun w=>
 pU π (fieldAt 27 t1 0) fun t3=>
 rD π (loadAt 23 t3) w fun t4=>
 pU π (fieldAt 27 t2 0) fun t5=>
 rD π (loadAt 23 t5) w fun t6=>
 pU π (fieldAt 27 t1 1) fun t7=>
 rD π (loadAt 23 t7) w fun t8=>
 pU π (fieldAt 27 t2 1) fun t9=>
 rD π (loadAt 23 t9) w fun t10=>
 CallV π Z 221 #[t4,t6] w fun t11 w=>
 Still π (nx (loadAt 23 t9)) t10 w <|
 Still π (nx (loadAt 23 t7)) t8 w <|
 CallV π Z 221 #[t8,t10] w fun t12 w=>
 rN π Z (Instr.buildSlice 168 2 #[(0,t11),(1,t12)]) w fun t13 w=>
 CallV π Z 220 #[t13] w fun t14 w=>
 Q t14 w
def f197.an:An:=(.q (.sq (.dr (pl [0,5,8,13,20,25,28,33,18,38,42,46,48] .fin)) .leaf))
theorem f197.calls {Z:PZ} {x0 x1:Value} {w:World} {Q:PQ} (h:f197.sh Z x0 x1 w Q):CallV π Z 197 #[x0,x1] w Q:=
 cl Tryz.func197 f197.an [x0,x1] (by kernel_rfl) (by kernel_rfl) h

def f198.sh (Z:PZ) (x0 x1:Value) (w:World) (Q:PQ):Prop:=
 rN π Z (convert 21 147 x1) w fun t1 w=>
 CallV π Z 83 #[x0,t1,(.int .i64 4)] w fun t2 w=>
 Q (Value.tuple #[]) w
def f198.an:An:=.leaf
theorem f198.calls {Z:PZ} {x0 x1:Value} {w:World} {Q:PQ} (h:f198.sh Z x0 x1 w Q):CallV π Z 198 #[x0,x1] w Q:=
 cl Tryz.func198 f198.an [x0,x1] (by kernel_rfl) (by kernel_rfl) h

def f199.sh (Z:PZ) (x0 x1:Value) (w:World) (Q:PQ):Prop:=
 CallV π Z 222 #[x0] w fun t1 w=>
 CallV π Z 223 #[x0] w fun t2 w=>
 rN π Z (convert 21 3 t2) w fun t3 w=>
 CallV π Z 171 #[x0] w fun t4 w=>
 rN π Z (Op.unary .not t4) w fun t5 w=>
 cV t5 (
 Q (.slice none 0 0) w) (
 rN π Z (binOp .lss 3 t3 (.int .i64 0)) w fun t6 w=>
 gW (t6) false (fun k=>k (t3) w) (fun t7 w=>
 gW (t6) false (fun k=>k (x1) w) (fun t8 w=>
 gW (t6) false (fun k=>rN π Z (binOp .gtr 3 t7 t8) w k) (fun t9 w=>
 rN π Z (pickV t6 (.bool true) t9) w fun t10 w=>
 cV t10 (
 CallV π Z 224 #[x0,t1,(.int .i64 11)] w fun t11 w=>
 Q (.slice none 0 0) w) (
 CallV π Z 193 #[x0,t3] w fun t12 w=>
 rN π Z (extract t12 0) w fun t13 w=>
 rN π Z (extract t12 1) w fun t14 w=>
 rN π Z (Op.unary .not t14) w fun t15 w=>
 cV t15 (
 CallV π Z 224 #[x0,t1,(.int .i64 10)] w fun t16 w=>
 Q (.slice none 0 0) w) (
 runX π Z (nilChk x0) w fun t17 w=>
 rN π Z (fieldAt 239 t17 1) w fun t18 w=>
 rN π Z (loadAt 30 t18) w fun t19 w=>
 rN π Z (Instr.sliceAt 30 t19 (some t3) none none) w fun t20 w=>
 runX π Z (nilChk x0) w fun t21 w=>
 rN π Z (fieldAt 239 t21 1) w fun t22 w=>
 rO π Z (storeAt 30 t22 t20) w fun w=>
 Q t13 w))) w) w) w)
def f199.an:An:=(.q (.q (.q (.sq (.q (.cn (.sq .leaf .leaf) .leaf)) (.sq (.q (.cn (.q (.sq .leaf .leaf)) .leaf)) (.q (.sq (.q (.cn (.q (.sq .leaf .leaf)) .leaf)) (.q (.sq .leaf .leaf)))))))))
theorem f199.calls {Z:PZ} {x0 x1:Value} {w:World} {Q:PQ} (h:f199.sh Z x0 x1 w Q):CallV π Z 199 #[x0,x1] w Q:=
 cl Tryz.func199 f199.an [x0,x1] (by kernel_rfl) (by kernel_rfl) h

def f200.sh (Z:PZ) (x0 x1:Value) (w:World) (Q:PQ):Prop:=
 rN π Z (Instr.box 35 x0) w fun t1 w=>
 rN π Z (Instr.box 35 x1) w fun t2 w=>
 rN π Z (fieldAt 35 t1 0) w fun t3 w=>
 rN π Z (loadAt 22 t3) w fun t4 w=>
 rN π Z (fieldAt 35 t2 0) w fun t5 w=>
 rN π Z (loadAt 22 t5) w fun t6 w=>
 rN π Z (eqOp .eql 22 false false t4 t6) w fun t7 w=>
 gW (t7) true (fun k=>rN π Z (fieldAt 35 t1 1) w k) (fun t8 w=>
 gW (t7) true (fun k=>rN π Z (loadAt 9 t8) w k) (fun t9 w=>
 gW (t7) true (fun k=>rN π Z (fieldAt 35 t2 1) w k) (fun t10 w=>
 gW (t7) true (fun k=>rN π Z (loadAt 9 t10) w k) (fun t11 w=>
 gW (t7) true (fun k=>rN π Z (eqOp .eql 9 false false t9 t11) w k) (fun t12 w=>
 rN π Z (pickV t7 t12 (.bool false)) w fun t13 w=>
 gW (t13) true (fun k=>rN π Z (fieldAt 35 t1 2) w k) (fun t14 w=>
 gW (t13) true (fun k=>rN π Z (loadAt 30 t14) w k) (fun t15 w=>
 gW (t13) true (fun k=>rN π Z (fieldAt 35 t2 2) w k) (fun t16 w=>
 gW (t13) true (fun k=>rN π Z (loadAt 30 t16) w k) (fun t17 w=>
 gW (t13) true (fun k=>CallV π Z 225 #[t15,t17] w k) (fun t18 w=>
 rN π Z (pickV t13 t18 (.bool false)) w fun t19 w=>
 gW (t19) true (fun k=>rN π Z (fieldAt 35 t1 3) w k) (fun t20 w=>
 gW (t19) true (fun k=>rN π Z (loadAt 31 t20) w k) (fun t21 w=>
 gW (t19) true (fun k=>rN π Z (fieldAt 35 t2 3) w k) (fun t22 w=>
 gW (t19) true (fun k=>rN π Z (loadAt 31 t22) w k) (fun t23 w=>
 gW (t19) true (fun k=>CallV π Z 226 #[t21,t23] w k) (fun t24 w=>
 rN π Z (pickV t19 t24 (.bool false)) w fun t25 w=>
 gW (t25) true (fun k=>rN π Z (fieldAt 35 t1 4) w k) (fun t26 w=>
 gW (t25) true (fun k=>rN π Z (loadAt 21 t26) w k) (fun t27 w=>
 gW (t25) true (fun k=>rN π Z (fieldAt 35 t2 4) w k) (fun t28 w=>
 gW (t25) true (fun k=>rN π Z (loadAt 21 t28) w k) (fun t29 w=>
 gW (t25) true (fun k=>rN π Z (eqOp .eql 21 false false t27 t29) w k) (fun t30 w=>
 rN π Z (pickV t25 t30 (.bool false)) w fun t31 w=>
 gW (t31) true (fun k=>rN π Z (fieldAt 35 t1 5) w k) (fun t32 w=>
 gW (t31) true (fun k=>rN π Z (loadAt 4 t32) w k) (fun t33 w=>
 gW (t31) true (fun k=>rN π Z (fieldAt 35 t2 5) w k) (fun t34 w=>
 gW (t31) true (fun k=>rN π Z (loadAt 4 t34) w k) (fun t35 w=>
 gW (t31) true (fun k=>rN π Z (eqOp .eql 4 false false t33 t35) w k) (fun t36 w=>
 rN π Z (pickV t31 t36 (.bool false)) w fun t37 w=>
 gW (t37) true (fun k=>rN π Z (fieldAt 35 t1 6) w k) (fun t38 w=>
 gW (t37) true (fun k=>rN π Z (loadAt 4 t38) w k) (fun t39 w=>
 gW (t37) true (fun k=>rN π Z (fieldAt 35 t2 6) w k) (fun t40 w=>
 gW (t37) true (fun k=>rN π Z (loadAt 4 t40) w k) (fun t41 w=>
 gW (t37) true (fun k=>rN π Z (eqOp .eql 4 false false t39 t41) w k) (fun t42 w=>
 rN π Z (pickV t37 t42 (.bool false)) w fun t43 w=>
 gW (t43) true (fun k=>rN π Z (fieldAt 35 t1 7) w k) (fun t44 w=>
 gW (t43) true (fun k=>rN π Z (loadAt 2 t44) w k) (fun t45 w=>
 gW (t43) true (fun k=>rN π Z (fieldAt 35 t2 7) w k) (fun t46 w=>
 gW (t43) true (fun k=>rN π Z (loadAt 2 t46) w k) (fun t47 w=>
 gW (t43) true (fun k=>rN π Z (eqOp .eql 2 false false t45 t47) w k) (fun t48 w=>
 rN π Z (pickV t43 t48 (.bool false)) w fun t49 w=>
 gW (t49) true (fun k=>rN π Z (fieldAt 35 t1 8) w k) (fun t50 w=>
 gW (t49) true (fun k=>rN π Z (loadAt 21 t50) w k) (fun t51 w=>
 gW (t49) true (fun k=>rN π Z (fieldAt 35 t2 8) w k) (fun t52 w=>
 gW (t49) true (fun k=>rN π Z (loadAt 21 t52) w k) (fun t53 w=>
 gW (t49) true (fun k=>rN π Z (eqOp .eql 21 false false t51 t53) w k) (fun t54 w=>
 rN π Z (pickV t49 t54 (.bool false)) w fun t55 w=>
 gW (t55) true (fun k=>rN π Z (fieldAt 35 t1 9) w k) (fun t56 w=>
 gW (t55) true (fun k=>rN π Z (loadAt 32 t56) w k) (fun t57 w=>
 gW (t55) true (fun k=>rN π Z (fieldAt 35 t2 9) w k) (fun t58 w=>
 gW (t55) true (fun k=>rN π Z (loadAt 32 t58) w k) (fun t59 w=>
 gW (t55) true (fun k=>CallV π Z 227 #[t57,t59] w k) (fun t60 w=>
 rN π Z (pickV t55 t60 (.bool false)) w fun t61 w=>
 gW (t61) true (fun k=>rN π Z (fieldAt 35 t1 10) w k) (fun t62 w=>
 gW (t61) true (fun k=>rN π Z (loadAt 33 t62) w k) (fun t63 w=>
 gW (t61) true (fun k=>rN π Z (fieldAt 35 t2 10) w k) (fun t64 w=>
 gW (t61) true (fun k=>rN π Z (loadAt 33 t64) w k) (fun t65 w=>
 gW (t61) true (fun k=>CallV π Z 228 #[t63,t65,(.func (.func 200) #[] #[])] w k) (fun t66 w=>
 rN π Z (pickV t61 t66 (.bool false)) w fun t67 w=>
 Q t67 w) w) w) w) w) w) w) w) w) w) w) w) w) w) w) w) w) w) w) w) w) w) w) w) w) w) w) w) w) w) w) w) w) w) w) w) w) w) w) w) w) w) w) w) w) w) w) w) w) w) w
def f200.an:An:=(.q (.sq .leaf .leaf))
theorem f200.calls {Z:PZ} {x0 x1:Value} {w:World} {Q:PQ} (h:f200.sh Z x0 x1 w Q):CallV π Z 200 #[x0,x1] w Q:=
 cl Tryz.func200 f200.an [x0,x1] (by kernel_rfl) (by kernel_rfl) h

def f201.sh (Z:PZ) (x0 x1:Value) (w:World) (Q:PQ):Prop:=
 rN π Z (Builtin.len_ #[31] 3 #[x0]) w fun t1 w=>
 rN π Z (Builtin.len_ #[31] 3 #[x1]) w fun t2 w=>
 rN π Z (eqOp .neq 3 false false t1 t2) w fun t3 w=>
 cV t3 (
 Q (.bool false) w) (
 ∃J_4:Nat→PQ,(∃m,J_4 m (.int .i64 0) w) ∧
 ∀m_4,∀t5:Value,∀w:World,J_4 m_4 t5 w→Env →
 rN π Z (Builtin.len_ #[31] 3 #[x0]) w fun t6 w=>
 rN π Z (binOp .lss 3 t5 t6) w fun t7 w=>
 cV t7 (
 Drawn w fun w=>
 pU π (indexAt 31 x0 t5) fun t8=>
 rD π (loadAt 178 t8) w fun t9=>
 pU π (indexAt 31 x1 t5) fun t10=>
 rD π (loadAt 178 t10) w fun t11=>
 pU π (eqOp .neq 178 false false t9 t11) fun t12=>
 cV t12 (
 Q (.bool false) w) (
 rN π Z (binOp .add 3 t5 (.int .i64 1)) w fun t13 w=>
 ∃n_4,n_4 < m_4∧J_4 n_4 t13 w)) (
 Q (.bool true) w))
def f201.an:An:=(.q (.sq (.q (.cn (.sq .leaf .leaf) .leaf)) (.sq (.q (.bl (.lp [5] (.sq (.q (.c)) (.sq (.bl (.sq (.dr (pl [0,4,8,13,16,20,24,29,32] .fin)) (.cn (.sq .leaf .leaf) .leaf))) .leaf))))) (.sq .leaf .leaf))))
theorem f201.calls {Z:PZ} {x0 x1:Value} {w:World} {Q:PQ} (h:f201.sh Z x0 x1 w Q):CallV π Z 201 #[x0,x1] w Q:=
 cl Tryz.func201 f201.an [x0,x1] (by kernel_rfl) (by kernel_rfl) h

def f202.sh (Z:PZ) (x0 x1:Value) (w:World) (Q:PQ):Prop:=
 rN π Z (Builtin.len_ #[32] 3 #[x0]) w fun t1 w=>
 rN π Z (Builtin.len_ #[32] 3 #[x1]) w fun t2 w=>
 rN π Z (eqOp .neq 3 false false t1 t2) w fun t3 w=>
 cV t3 (
 Q (.bool false) w) (
 ∃J_4:Nat→PQ,(∃m,J_4 m (.int .i64 0) w) ∧
 ∀m_4,∀t5:Value,∀w:World,J_4 m_4 t5 w→Env →
 rN π Z (Builtin.len_ #[32] 3 #[x0]) w fun t6 w=>
 rN π Z (binOp .lss 3 t5 t6) w fun t7 w=>
 cV t7 (
 Drawn w fun w=>
 pU π (indexAt 32 x0 t5) fun t8=>
 rD π (loadAt 175 t8) w fun t9=>
 pU π (indexAt 32 x1 t5) fun t10=>
 rD π (loadAt 175 t10) w fun t11=>
 pU π (eqOp .neq 175 false false t9 t11) fun t12=>
 cV t12 (
 Q (.bool false) w) (
 rN π Z (binOp .add 3 t5 (.int .i64 1)) w fun t13 w=>
 ∃n_4,n_4 < m_4∧J_4 n_4 t13 w)) (
 Q (.bool true) w))
def f202.an:An:=(.q (.sq (.q (.cn (.sq .leaf .leaf) .leaf)) (.sq (.q (.bl (.lp [5] (.sq (.q (.c)) (.sq (.bl (.sq (.dr (pl [0,4,8,13,16,20,24,29,32] .fin)) (.cn (.sq .leaf .leaf) .leaf))) .leaf))))) (.sq .leaf .leaf))))
theorem f202.calls {Z:PZ} {x0 x1:Value} {w:World} {Q:PQ} (h:f202.sh Z x0 x1 w Q):CallV π Z 202 #[x0,x1] w Q:=
 cl Tryz.func202 f202.an [x0,x1] (by kernel_rfl) (by kernel_rfl) h

def f203.sh (Z:PZ) (x0:Value) (w:World) (Q:PQ):Prop:=
 rN π Z (Instr.box 35 x0) w fun t1 w=>
 rN π Z (fieldAt 35 t1 0) w fun t2 w=>
 rN π Z (loadAt 22 t2) w fun t3 w=>
 CallV π Z 229 #[t3] w fun t4 w=>
 rN π Z (eqOp .eql 9 false true t4 (.string { data:=#[] })) w fun t5 w=>
 cV t5 (
 Q (.bool false) w) (
 rN π Z (fieldAt 35 t1 1) w fun t6 w=>
 rN π Z (loadAt 9 t6) w fun t7 w=>
 rN π Z (eqOp .neq 9 false true t7 (.string { data:=#[] })) w fun t8 w=>
 gW (t8) true (fun k=>k (t4) w) (fun t9 w=>
 gW (t8) true (fun k=>CallV π Z 230 #[t9,(.int .u8 112)] w k) (fun t10 w=>
 gW (t8) true (fun k=>rN π Z (Op.unary .not t10) w k) (fun t11 w=>
 rN π Z (pickV t8 t11 (.bool false)) w fun t12 w=>
 gW (t12) false (fun k=>rN π Z (fieldAt 35 t1 1) w k) (fun t13 w=>
 gW (t12) false (fun k=>rN π Z (loadAt 9 t13) w k) (fun t14 w=>
 gW (t12) false (fun k=>rN π Z (Builtin.len_ #[9] 3 #[t14]) w k) (fun t15 w=>
 gW (t12) false (fun k=>rN π Z (binOp .gtr 3 t15 (.int .i64 64)) w k) (fun t16 w=>
 rN π Z (pickV t12 (.bool true) t16) w fun t17 w=>
 cV t17 (
 Q (.bool false) w) (
 rN π Z (fieldAt 35 t1 2) w fun t18 w=>
 rN π Z (loadAt 30 t18) w fun t19 w=>
 rN π Z (Builtin.len_ #[30] 3 #[t19]) w fun t20 w=>
 rN π Z (eqOp .neq 3 false true t20 (.int .i64 0)) w fun t21 w=>
 gW (t21) true (fun k=>k (t4) w) (fun t22 w=>
 gW (t21) true (fun k=>CallV π Z 230 #[t22,(.int .u8 100)] w k) (fun t23 w=>
 gW (t21) true (fun k=>rN π Z (Op.unary .not t23) w k) (fun t24 w=>
 rN π Z (pickV t21 t24 (.bool false)) w fun t25 w=>
 gW (t25) false (fun k=>rN π Z (fieldAt 35 t1 2) w k) (fun t26 w=>
 gW (t25) false (fun k=>rN π Z (loadAt 30 t26) w k) (fun t27 w=>
 gW (t25) false (fun k=>rN π Z (Builtin.len_ #[30] 3 #[t27]) w k) (fun t28 w=>
 gW (t25) false (fun k=>rN π Z (binOp .gtr 3 t28 (.int .i64 96)) w k) (fun t29 w=>
 rN π Z (pickV t25 (.bool true) t29) w fun t30 w=>
 cV t30 (
 Q (.bool false) w) (
 rN π Z (fieldAt 35 t1 3) w fun t31 w=>
 rN π Z (loadAt 31 t31) w fun t32 w=>
 rN π Z (Builtin.len_ #[31] 3 #[t32]) w fun t33 w=>
 rN π Z (eqOp .neq 3 false true t33 (.int .i64 0)) w fun t34 w=>
 gW (t34) true (fun k=>k (t4) w) (fun t35 w=>
 gW (t34) true (fun k=>CallV π Z 230 #[t35,(.int .u8 97)] w k) (fun t36 w=>
 gW (t34) true (fun k=>rN π Z (Op.unary .not t36) w k) (fun t37 w=>
 rN π Z (pickV t34 t37 (.bool false)) w fun t38 w=>
 gW (t38) false (fun k=>rN π Z (fieldAt 35 t1 3) w k) (fun t39 w=>
 gW (t38) false (fun k=>rN π Z (loadAt 31 t39) w k) (fun t40 w=>
 gW (t38) false (fun k=>CallV π Z 231 #[t40] w k) (fun t41 w=>
 gW (t38) false (fun k=>rN π Z (Op.unary .not t41) w k) (fun t42 w=>
 rN π Z (pickV t38 (.bool true) t42) w fun t43 w=>
 cV t43 (
 Q (.bool false) w) (
 rN π Z (fieldAt 35 t1 4) w fun t44 w=>
 rN π Z (loadAt 21 t44) w fun t45 w=>
 rN π Z (eqOp .neq 21 false true t45 (.int .i32 0)) w fun t46 w=>
 gW (t46) true (fun k=>k (t4) w) (fun t47 w=>
 gW (t46) true (fun k=>CallV π Z 230 #[t47,(.int .u8 118)] w k) (fun t48 w=>
 gW (t46) true (fun k=>rN π Z (Op.unary .not t48) w k) (fun t49 w=>
 rN π Z (pickV t46 t49 (.bool false)) w fun t50 w=>
 cV t50 (
 Q (.bool false) w) (
 rN π Z (fieldAt 35 t1 5) w fun t51 w=>
 rN π Z (loadAt 4 t51) w fun t52 w=>
 gW (t52) false (fun k=>rN π Z (fieldAt 35 t1 6) w k) (fun t53 w=>
 gW (t52) false (fun k=>rN π Z (loadAt 4 t53) w k) (fun t54 w=>
 rN π Z (pickV t52 (.bool true) t54) w fun t55 w=>
 gW (t55) true (fun k=>k (t4) w) (fun t56 w=>
 gW (t55) true (fun k=>CallV π Z 230 #[t56,(.int .u8 102)] w k) (fun t57 w=>
 gW (t55) true (fun k=>rN π Z (Op.unary .not t57) w k) (fun t58 w=>
 rN π Z (pickV t55 t58 (.bool false)) w fun t59 w=>
 cV t59 (
 Q (.bool false) w) (
 rN π Z (fieldAt 35 t1 7) w fun t60 w=>
 rN π Z (loadAt 2 t60) w fun t61 w=>
 rN π Z (eqOp .neq 2 false true t61 (.int .i64 0)) w fun t62 w=>
 gW (t62) true (fun k=>k (t4) w) (fun t63 w=>
 gW (t62) true (fun k=>CallV π Z 230 #[t63,(.int .u8 115)] w k) (fun t64 w=>
 gW (t62) true (fun k=>rN π Z (Op.unary .not t64) w k) (fun t65 w=>
 rN π Z (pickV t62 t65 (.bool false)) w fun t66 w=>
 gW (t66) false (fun k=>rN π Z (fieldAt 35 t1 7) w k) (fun t67 w=>
 gW (t66) false (fun k=>rN π Z (loadAt 2 t67) w k) (fun t68 w=>
 gW (t66) false (fun k=>rN π Z (binOp .lss 2 t68 (.int .i64 0)) w k) (fun t69 w=>
 rN π Z (pickV t66 (.bool true) t69) w fun t70 w=>
 gW (t70) false (fun k=>rN π Z (fieldAt 35 t1 0) w k) (fun t71 w=>
 gW (t70) false (fun k=>rN π Z (loadAt 22 t71) w k) (fun t72 w=>
 gW (t70) false (fun k=>rN π Z (eqOp .eql 22 false true t72 (.int .i8 8)) w k) (fun t73 w=>
 gW (t70) false (fun k=>k (t73) w) (fun t74 w=>
 gW (t74) true (fun k=>rN π Z (fieldAt 35 t1 7) w k) (fun t75 w=>
 gW (t74) true (fun k=>rN π Z (loadAt 2 t75) w k) (fun t76 w=>
 gW (t74) true (fun k=>rN π Z (binOp .lss 2 t76 (.int .i64 1)) w k) (fun t77 w=>
 gW (t70) false (fun k=>rN π Z (pickV t74 t77 (.bool false)) w k) (fun t78 w=>
 rN π Z (pickV t70 (.bool true) t78) w fun t79 w=>
 cV t79 (
 Q (.bool false) w) (
 CallV π Z 230 #[t4,(.int .u8 116)] w fun t80 w=>
 gW (t80) true (fun k=>rN π Z (fieldAt 35 t1 8) w k) (fun t81 w=>
 gW (t80) true (fun k=>rN π Z (loadAt 21 t81) w k) (fun t82 w=>
 gW (t80) true (fun k=>rN π Z (binOp .lss 21 t82 (.int .i32 1)) w k) (fun t83 w=>
 gW (t80) true (fun k=>k (t83) w) (fun t84 w=>
 gW (t84) false (fun k=>rN π Z (fieldAt 35 t1 8) w k) (fun t85 w=>
 gW (t84) false (fun k=>rN π Z (loadAt 21 t85) w k) (fun t86 w=>
 gW (t84) false (fun k=>rN π Z (binOp .gtr 21 t86 (.int .i32 1000)) w k) (fun t87 w=>
 gW (t80) true (fun k=>rN π Z (pickV t84 (.bool true) t87) w k) (fun t88 w=>
 rN π Z (pickV t80 t88 (.bool false)) w fun t89 w=>
 gW (t89) false (fun k=>k (t4) w) (fun t90 w=>
 gW (t89) false (fun k=>CallV π Z 230 #[t90,(.int .u8 116)] w k) (fun t91 w=>
 gW (t89) false (fun k=>rN π Z (Op.unary .not t91) w k) (fun t92 w=>
 gW (t89) false (fun k=>k (t92) w) (fun t93 w=>
 gW (t93) true (fun k=>rN π Z (fieldAt 35 t1 8) w k) (fun t94 w=>
 gW (t93) true (fun k=>rN π Z (loadAt 21 t94) w k) (fun t95 w=>
 gW (t93) true (fun k=>rN π Z (eqOp .neq 21 false true t95 (.int .i32 0)) w k) (fun t96 w=>
 gW (t89) false (fun k=>rN π Z (pickV t93 t96 (.bool false)) w k) (fun t97 w=>
 rN π Z (pickV t89 (.bool true) t97) w fun t98 w=>
 cV t98 (
 Q (.bool false) w) (
 rN π Z (fieldAt 35 t1 9) w fun t99 w=>
 rN π Z (loadAt 32 t99) w fun t100 w=>
 rN π Z (Builtin.len_ #[32] 3 #[t100]) w fun t101 w=>
 rN π Z (eqOp .neq 3 false true t101 (.int .i64 0)) w fun t102 w=>
 gW (t102) true (fun k=>k (t4) w) (fun t103 w=>
 gW (t102) true (fun k=>CallV π Z 230 #[t103,(.int .u8 119)] w k) (fun t104 w=>
 gW (t102) true (fun k=>rN π Z (Op.unary .not t104) w k) (fun t105 w=>
 rN π Z (pickV t102 t105 (.bool false)) w fun t106 w=>
 gW (t106) false (fun k=>rN π Z (fieldAt 35 t1 9) w k) (fun t107 w=>
 gW (t106) false (fun k=>rN π Z (loadAt 32 t107) w k) (fun t108 w=>
 gW (t106) false (fun k=>CallV π Z 232 #[t108] w k) (fun t109 w=>
 gW (t106) false (fun k=>rN π Z (Op.unary .not t109) w k) (fun t110 w=>
 rN π Z (pickV t106 (.bool true) t110) w fun t111 w=>
 cV t111 (
 Q (.bool false) w) (
 CallV π Z 230 #[t4,(.int .u8 111)] w fun t112 w=>
 cV t112 (
 rN π Z (fieldAt 35 t1 10) w fun t113 w=>
 rN π Z (loadAt 33 t113) w fun t114 w=>
 rN π Z (Builtin.len_ #[33] 3 #[t114]) w fun t115 w=>
 rN π Z (binOp .geq 3 t115 (.int .i64 1)) w fun t116 w=>
 gW (t116) true (fun k=>rN π Z (fieldAt 35 t1 10) w k) (fun t117 w=>
 gW (t116) true (fun k=>rN π Z (loadAt 33 t117) w k) (fun t118 w=>
 gW (t116) true (fun k=>rN π Z (Builtin.len_ #[33] 3 #[t118]) w k) (fun t119 w=>
 gW (t116) true (fun k=>rN π Z (binOp .leq 3 t119 (.int .i64 8)) w k) (fun t120 w=>
 rN π Z (pickV t116 t120 (.bool false)) w fun t121 w=>
 Q t121 w) w) w) w) w) (
 rN π Z (fieldAt 35 t1 10) w fun t122 w=>
 rN π Z (loadAt 33 t122) w fun t123 w=>
 rN π Z (Builtin.len_ #[33] 3 #[t123]) w fun t124 w=>
 rN π Z (eqOp .eql 3 false true t124 (.int .i64 0)) w fun t125 w=>
 Q t125 w))) w) w) w) w) w) w) w)) w) w) w) w) w) w) w) w) w) w) w) w) w) w) w) w)) w) w) w) w) w) w) w) w) w) w) w) w) w) w)) w) w) w) w) w)) w) w) w)) w) w) w) w) w) w) w)) w) w) w) w) w) w) w)) w) w) w) w) w) w) w)
def f203.an:An:=(.q (.q (.sq (.q (.cn (.sq .leaf .leaf) .leaf)) (.sq (.q (.cn (.sq .leaf .leaf) .leaf)) (.sq (.q (.cn (.sq .leaf .leaf) .leaf)) (.sq (.q (.cn (.sq .leaf .leaf) .leaf)) (.sq (.q (.cn (.sq .leaf .leaf) .leaf)) (.sq (.q (.cn (.sq .leaf .leaf) .leaf)) (.sq (.q (.cn (.sq .leaf .leaf) .leaf)) (.sq (.q (.cn (.sq .leaf .leaf) .leaf)) (.sq (.q (.cn (.sq .leaf .leaf) .leaf)) (.sq (.q (.cn (.sq .leaf .leaf) .leaf)) (.sq .leaf .leaf)))))))))))))
theorem f203.calls {Z:PZ} {x0:Value} {w:World} {Q:PQ} (h:f203.sh Z x0 w Q):CallV π Z 203 #[x0] w Q:=
 cl Tryz.func203 f203.an [x0] (by kernel_rfl) (by kernel_rfl) h

def f204.sh (Z:PZ) (x0:Value) (w:World) (Q:PQ):Prop:=
 ∃J_1:Nat→Value→PQ,(∃m,J_1 m (.slice none 0 0) (.int .i64 0) w) ∧
 ∀m_1,∀t2:Value,∀t3:Value,∀w:World,J_1 m_1 t2 t3 w→Env →
 rN π Z (Builtin.len_ #[31] 3 #[x0]) w fun t4 w=>
 rN π Z (binOp .lss 3 t3 t4) w fun t5 w=>
 cV t5 (
 rN π Z (indexAt 31 x0 t3) w fun t6 w=>
 rN π Z (loadAt 178 t6) w fun t7 w=>
 rN π Z (Instr.buildSlice 31 1 #[(0,t7)]) w fun t8 w=>
 rN π Z (Builtin.append_ #[31,31] 31 #[t2,t8]) w fun t9 w=>
 rN π Z (binOp .add 3 t3 (.int .i64 1)) w fun t10 w=>
 ∃n_1,n_1 < m_1∧J_1 n_1 t9 t10 w) (
 Q t2 w)
def f204.an:An:=(.q (.q (.sq (.q (.bl (.lp [3,4] (.sq (.q (.c)) (.sq (.bl .leaf) .leaf))))) (.sq .leaf .leaf))))
theorem f204.calls {Z:PZ} {x0:Value} {w:World} {Q:PQ} (h:f204.sh Z x0 w Q):CallV π Z 204 #[x0] w Q:=
 cl Tryz.func204 f204.an [x0] (by kernel_rfl) (by kernel_rfl) h

def f205.sh (Z:PZ) (x0:Value) (w:World) (Q:PQ):Prop:=
 ∃J_1:Nat→Value→PQ,(∃m,J_1 m (.slice none 0 0) (.int .i64 0) w) ∧
 ∀m_1,∀t2:Value,∀t3:Value,∀w:World,J_1 m_1 t2 t3 w→Env →
 rN π Z (Builtin.len_ #[32] 3 #[x0]) w fun t4 w=>
 rN π Z (binOp .lss 3 t3 t4) w fun t5 w=>
 cV t5 (
 rN π Z (indexAt 32 x0 t3) w fun t6 w=>
 rN π Z (loadAt 175 t6) w fun t7 w=>
 rN π Z (Instr.buildSlice 32 1 #[(0,t7)]) w fun t8 w=>
 rN π Z (Builtin.append_ #[32,32] 32 #[t2,t8]) w fun t9 w=>
 rN π Z (binOp .add 3 t3 (.int .i64 1)) w fun t10 w=>
 ∃n_1,n_1 < m_1∧J_1 n_1 t9 t10 w) (
 Q t2 w)
def f205.an:An:=(.q (.q (.sq (.q (.bl (.lp [3,4] (.sq (.q (.c)) (.sq (.bl .leaf) .leaf))))) (.sq .leaf .leaf))))
theorem f205.calls {Z:PZ} {x0:Value} {w:World} {Q:PQ} (h:f205.sh Z x0 w Q):CallV π Z 205 #[x0] w Q:=
 cl Tryz.func205 f205.an [x0] (by kernel_rfl) (by kernel_rfl) h

def f214.sh (Z:PZ) (x0 x1:Value) (w:World) (Q:PQ):Prop:=
 ∃J_1:Nat→Value→PQ,(∃m,J_1 m x0 (.int .i64 0) w) ∧
 ∀m_1,∀t2:Value,∀t3:Value,∀w:World,J_1 m_1 t2 t3 w→Env →
 rN π Z (Builtin.len_ #[30] 3 #[x1]) w fun t4 w=>
 rN π Z (binOp .lss 3 t3 t4) w fun t5 w=>
 cV t5 (
 rN π Z (indexAt 30 x1 t3) w fun t6 w=>
 rN π Z (loadAt 5 t6) w fun t7 w=>
 rN π Z (Instr.buildSlice 30 1 #[(0,t7)]) w fun t8 w=>
 rN π Z (Builtin.append_ #[30,30] 30 #[t2,t8]) w fun t9 w=>
 rN π Z (binOp .add 3 t3 (.int .i64 1)) w fun t10 w=>
 ∃n_1,n_1 < m_1∧J_1 n_1 t9 t10 w) (
 Q t2 w)
def f214.an:An:=(.q (.sq (.q (.bl (.lp [0,5] (.sq (.q (.c)) (.sq (.bl .leaf) .leaf))))) (.sq .leaf .leaf)))
theorem f214.calls {Z:PZ} {x0 x1:Value} {w:World} {Q:PQ} (h:f214.sh Z x0 x1 w Q):CallV π Z 214 #[x0,x1] w Q:=
 cl Tryz.func214 f214.an [x0,x1] (by kernel_rfl) (by kernel_rfl) h

def f215.sh (Z:PZ) (x0 x1 x2:Value) (w:World) (Q:PQ):Prop:=
 rN π Z (Instr.box 35 x1) w fun t1 w=>
 rN π Z (fieldAt 35 t1 0) w fun t2 w=>
 rN π Z (loadAt 22 t2) w fun t3 w=>
 CallV π Z 229 #[t3] w fun t4 w=>
 rN π Z (fieldAt 35 t1 0) w fun t5 w=>
 rN π Z (loadAt 22 t5) w fun t6 w=>
 CallV π Z 81 #[t6] w fun t7 w=>
 CallV π Z 214 #[x0,t7] w fun t8 w=>
 ∃J_9:Nat→Value→PQ,(∃m,J_9 m t8 (.int .i64 0) w) ∧
 ∀m_9,∀t10:Value,∀t11:Value,∀w:World,J_9 m_9 t10 t11 w→Env →
 rN π Z (Builtin.len_ #[9] 3 #[t4]) w fun t12 w=>
 rN π Z (binOp .lss 3 t11 t12) w fun t13 w=>
 cV t13 (
 ∀j_14:PQ,(∀t15:Value,∀w:World,(Env →
 rN π Z (binOp .add 3 t11 (.int .i64 1)) w fun t16 w=>
 ∃n_9,n_9 < m_9∧J_9 n_9 t15 t16 w) →
 j_14 t15 w) →
 rN π Z (Instr.index 9 t4 t11) w fun t17 w=>
 rN π Z (eqOp .eql 5 false true t17 (.int .u8 112)) w fun t18 w=>
 cV t18 (
 rN π Z (fieldAt 35 t1 1) w fun t19 w=>
 rN π Z (loadAt 9 t19) w fun t20 w=>
 CallV π Z 237 #[t20] w fun t21 w=>
 CallV π Z 214 #[t10,t21] w fun t22 w=>
 j_14 t22 w) (
 rN π Z (eqOp .eql 5 false true t17 (.int .u8 100)) w fun t23 w=>
 cV t23 (
 rN π Z (fieldAt 35 t1 2) w fun t24 w=>
 rN π Z (loadAt 30 t24) w fun t25 w=>
 CallV π Z 180 #[t25] w fun t26 w=>
 CallV π Z 214 #[t10,t26] w fun t27 w=>
 j_14 t27 w) (
 rN π Z (eqOp .eql 5 false true t17 (.int .u8 97)) w fun t28 w=>
 cV t28 (
 rN π Z (fieldAt 35 t1 3) w fun t29 w=>
 rN π Z (loadAt 31 t29) w fun t30 w=>
 rN π Z (Builtin.len_ #[31] 3 #[t30]) w fun t31 w=>
 rN π Z (convert 3 21 t31) w fun t32 w=>
 CallV π Z 216 #[t32] w fun t33 w=>
 CallV π Z 214 #[t10,t33] w fun t34 w=>
 ∃J_35:Nat→Value→PQ,(∃m,J_35 m t34 (.int .i64 0) w) ∧
 ∀m_35,∀t36:Value,∀t37:Value,∀w:World,J_35 m_35 t36 t37 w→Env →
 rN π Z (fieldAt 35 t1 3) w fun t38 w=>
 rN π Z (loadAt 31 t38) w fun t39 w=>
 rN π Z (Builtin.len_ #[31] 3 #[t39]) w fun t40 w=>
 rN π Z (binOp .lss 3 t37 t40) w fun t41 w=>
 cV t41 (
 rN π Z (fieldAt 35 t1 3) w fun t42 w=>
 rN π Z (loadAt 31 t42) w fun t43 w=>
 rN π Z (indexAt 31 t43 t37) w fun t44 w=>
 rN π Z (fieldAt 178 t44 0) w fun t45 w=>
 rN π Z (loadAt 22 t45) w fun t46 w=>
 CallV π Z 81 #[t46] w fun t47 w=>
 CallV π Z 214 #[t36,t47] w fun t48 w=>
 rN π Z (fieldAt 35 t1 3) w fun t49 w=>
 rN π Z (loadAt 31 t49) w fun t50 w=>
 rN π Z (indexAt 31 t50 t37) w fun t51 w=>
 rN π Z (fieldAt 178 t51 1) w fun t52 w=>
 rN π Z (loadAt 175 t52) w fun t53 w=>
 CallV π Z 238 #[t48,t53] w fun t54 w=>
 rN π Z (binOp .add 3 t37 (.int .i64 1)) w fun t55 w=>
 ∃n_35,n_35 < m_35∧J_35 n_35 t54 t55 w) (
 j_14 t36 w)) (
 rN π Z (eqOp .eql 5 false true t17 (.int .u8 118)) w fun t56 w=>
 cV t56 (
 rN π Z (fieldAt 35 t1 4) w fun t57 w=>
 rN π Z (loadAt 21 t57) w fun t58 w=>
 CallV π Z 216 #[t58] w fun t59 w=>
 CallV π Z 214 #[t10,t59] w fun t60 w=>
 j_14 t60 w) (
 rN π Z (eqOp .eql 5 false true t17 (.int .u8 102)) w fun t61 w=>
 cV t61 (
 rN π Z (fieldAt 35 t1 5) w fun t62 w=>
 rN π Z (loadAt 4 t62) w fun t63 w=>
 CallV π Z 178 #[t63] w fun t64 w=>
 CallV π Z 214 #[t10,t64] w fun t65 w=>
 rN π Z (fieldAt 35 t1 6) w fun t66 w=>
 rN π Z (loadAt 4 t66) w fun t67 w=>
 CallV π Z 178 #[t67] w fun t68 w=>
 CallV π Z 214 #[t65,t68] w fun t69 w=>
 j_14 t69 w) (
 rN π Z (eqOp .eql 5 false true t17 (.int .u8 115)) w fun t70 w=>
 cV t70 (
 rN π Z (Op.unary .not x2) w fun t71 w=>
 cV t71 (
 rN π Z (fieldAt 35 t1 7) w fun t72 w=>
 rN π Z (loadAt 2 t72) w fun t73 w=>
 CallV π Z 177 #[t73] w fun t74 w=>
 CallV π Z 214 #[t10,t74] w fun t75 w=>
 j_14 t75 w) (
 j_14 t10 w)) (
 rN π Z (eqOp .eql 5 false true t17 (.int .u8 116)) w fun t76 w=>
 cV t76 (
 rN π Z (fieldAt 35 t1 8) w fun t77 w=>
 rN π Z (loadAt 21 t77) w fun t78 w=>
 CallV π Z 216 #[t78] w fun t79 w=>
 CallV π Z 214 #[t10,t79] w fun t80 w=>
 j_14 t80 w) (
 rN π Z (eqOp .eql 5 false true t17 (.int .u8 119)) w fun t81 w=>
 cV t81 (
 rN π Z (Op.unary .not x2) w fun t82 w=>
 cV t82 (
 rN π Z (fieldAt 35 t1 9) w fun t83 w=>
 rN π Z (loadAt 32 t83) w fun t84 w=>
 rN π Z (Builtin.len_ #[32] 3 #[t84]) w fun t85 w=>
 rN π Z (convert 3 21 t85) w fun t86 w=>
 CallV π Z 216 #[t86] w fun t87 w=>
 CallV π Z 214 #[t10,t87] w fun t88 w=>
 ∃J_89:Nat→Value→PQ,(∃m,J_89 m t88 (.int .i64 0) w) ∧
 ∀m_89,∀t90:Value,∀t91:Value,∀w:World,J_89 m_89 t90 t91 w→Env →
 rN π Z (fieldAt 35 t1 9) w fun t92 w=>
 rN π Z (loadAt 32 t92) w fun t93 w=>
 rN π Z (Builtin.len_ #[32] 3 #[t93]) w fun t94 w=>
 rN π Z (binOp .lss 3 t91 t94) w fun t95 w=>
 cV t95 (
 rN π Z (fieldAt 35 t1 9) w fun t96 w=>
 rN π Z (loadAt 32 t96) w fun t97 w=>
 rN π Z (indexAt 32 t97 t91) w fun t98 w=>
 rN π Z (loadAt 175 t98) w fun t99 w=>
 CallV π Z 238 #[t90,t99] w fun t100 w=>
 rN π Z (binOp .add 3 t91 (.int .i64 1)) w fun t101 w=>
 ∃n_89,n_89 < m_89∧J_89 n_89 t100 t101 w) (
 j_14 t90 w)) (
 j_14 t10 w)) (
 rN π Z (eqOp .eql 5 false true t17 (.int .u8 111)) w fun t102 w=>
 cV t102 (
 rN π Z (fieldAt 35 t1 10) w fun t103 w=>
 rN π Z (loadAt 33 t103) w fun t104 w=>
 rN π Z (Builtin.len_ #[33] 3 #[t104]) w fun t105 w=>
 rN π Z (convert 3 21 t105) w fun t106 w=>
 CallV π Z 216 #[t106] w fun t107 w=>
 CallV π Z 214 #[t10,t107] w fun t108 w=>
 ∃J_109:Nat→Value→PQ,(∃m,J_109 m t108 (.int .i64 0) w) ∧
 ∀m_109,∀t110:Value,∀t111:Value,∀w:World,J_109 m_109 t110 t111 w→Env →
 rN π Z (fieldAt 35 t1 10) w fun t112 w=>
 rN π Z (loadAt 33 t112) w fun t113 w=>
 rN π Z (Builtin.len_ #[33] 3 #[t113]) w fun t114 w=>
 rN π Z (binOp .lss 3 t111 t114) w fun t115 w=>
 cV t115 (
 rN π Z (fieldAt 35 t1 10) w fun t116 w=>
 rN π Z (loadAt 33 t116) w fun t117 w=>
 rN π Z (indexAt 33 t117 t111) w fun t118 w=>
 rN π Z (loadAt 35 t118) w fun t119 w=>
 CallV π Z 215 #[t110,t119,(.bool true)] w fun t120 w=>
 rN π Z (binOp .add 3 t111 (.int .i64 1)) w fun t121 w=>
 ∃n_109,n_109 < m_109∧J_109 n_109 t120 t121 w) (
 j_14 t110 w)) (
 j_14 t10 w)))))))))) (
 Q t10 w)
def f215.an:An:=(.q (.q (.q (.sq (.q (.bl (.lp [0,8] (.sq (.q (.c)) (.sj [0] (.bl (.q (.bl (.q (.cn .leaf (.q (.cn .leaf (.q (.cn (.q (.q (.bl (.lp [0,9] (.sq (.q (.c)) (.sq (.bl (.sq .leaf .leaf)) .leaf)))))) (.q (.cn .leaf (.q (.cn (.sq .leaf .leaf) (.q (.cn (.q (.c)) (.q (.cn .leaf (.q (.cn (.q (.cn (.q (.q (.bl (.lp [0,10] (.sq (.q (.c)) (.sq (.bl .leaf) .leaf)))))) .leaf)) (.q (.cn (.q (.q (.bl (.lp [0,11] (.sq (.q (.c)) (.sq (.bl .leaf) .leaf)))))) .leaf))))))))))))))))))))) .leaf))))) (.sq .leaf .leaf)))))
theorem f215.calls {Z:PZ} {x0 x1 x2:Value} {w:World} {Q:PQ} (h:f215.sh Z x0 x1 x2 w Q):CallV π Z 215 #[x0,x1,x2] w Q:=
 cl Tryz.func215 f215.an [x0,x1,x2] (by kernel_rfl) (by kernel_rfl) h

def f216.sh (Z:PZ) (x0:Value) (w:World) (Q:PQ):Prop:=
 rN π Z (convert 21 2 x0) w fun t1 w=>
 ∀j_2:PQ,(∀t3:Value,∀w:World,(Env →
 rN π Z (convert 2 147 t3) w fun t4 w=>
 CallV π Z 168 #[t4,(.int .i64 4)] w fun t5 w=>
 Q t5 w) →
 j_2 t3 w) →
 rN π Z (binOp .lss 2 t1 (.int .i64 0)) w fun t6 w=>
 cV t6 (
 rN π Z (binOp .add 2 t1 (.int .i64 4294967296)) w fun t7 w=>
 j_2 t7 w) (
 j_2 t1 w)
def f216.an:An:=(.q (.q (.sj [3] (.q (.c)) (.sq .leaf .leaf))))
theorem f216.calls {Z:PZ} {x0:Value} {w:World} {Q:PQ} (h:f216.sh Z x0 w Q):CallV π Z 216 #[x0] w Q:=
 cl Tryz.func216 f216.an [x0] (by kernel_rfl) (by kernel_rfl) h

def f217.sh (Z:PZ) (x0 x1 x2:Value) (w:World) (Q:PQ):Prop:=
 rN π Z (Instr.box 267 x0) w fun t1 w=>
 rN π Z (Instr.box 35 x2) w fun t2 w=>
 rN π Z (fieldAt 35 t2 0) w fun t3 w=>
 rN π Z (loadAt 22 t3) w fun t4 w=>
 CallV π Z 30 #[x1,t4] w fun t5 w=>
 rN π Z (loadAt 267 t1) w fun t6 w=>
 rN π Z (fieldAt 35 t2 0) w fun t7 w=>
 rN π Z (loadAt 22 t7) w fun t8 w=>
 CallV π Z 239 #[t6,t8] w fun t9 w=>
 ∀j_10:World→Prop,(∀w:World,(Env →
 ∀j_11:World→Prop,(∀w:World,(Env →
 ∀j_12:World→Prop,(∀w:World,(Env →
 ∀j_13:World→Prop,(∀w:World,(Env →
 ∀j_14:World→Prop,(∀w:World,(Env →
 ∀j_15:World→Prop,(∀w:World,(Env →
 ∀j_16:World→Prop,(∀w:World,(Env →
 ∀j_17:World→Prop,(∀w:World,(Env →
 rN π Z (binOp .and 155 t9 (.int .u64 256)) w fun t18 w=>
 rN π Z (eqOp .neq 155 false true t18 (.int .u64 0)) w fun t19 w=>
 cV t19 (
 rN π Z (fieldAt 35 t2 10) w fun t20 w=>
 rN π Z (loadAt 33 t20) w fun t21 w=>
 rN π Z (Instr.build 267 #[(0,(.bool true))]) w fun t22 w=>
 rN π Z (Instr.makeFunc (.func 217) #[t22] #[]) w fun t23 w=>
 CallV π Z 245 #[x1,t21,t23] w fun t24 w=>
 Q (Value.tuple #[]) w) (
 Q (Value.tuple #[]) w)) →
 j_17 w) →
 rN π Z (binOp .and 155 t9 (.int .u64 128)) w fun t25 w=>
 rN π Z (eqOp .neq 155 false true t25 (.int .u64 0)) w fun t26 w=>
 cV t26 (
 rN π Z (fieldAt 35 t2 9) w fun t27 w=>
 rN π Z (loadAt 32 t27) w fun t28 w=>
 CallV π Z 243 #[x1,t28,(.func (.func 244) #[] #[])] w fun t29 w=>
 j_17 w) (
 j_17 w)) →
 j_16 w) →
 rN π Z (binOp .and 155 t9 (.int .u64 64)) w fun t30 w=>
 rN π Z (eqOp .neq 155 false true t30 (.int .u64 0)) w fun t31 w=>
 cV t31 (
 rN π Z (fieldAt 35 t2 8) w fun t32 w=>
 rN π Z (loadAt 21 t32) w fun t33 w=>
 CallV π Z 198 #[x1,t33] w fun t34 w=>
 j_16 w) (
 j_16 w)) →
 j_15 w) →
 rN π Z (binOp .and 155 t9 (.int .u64 32)) w fun t35 w=>
 rN π Z (eqOp .neq 155 false true t35 (.int .u64 0)) w fun t36 w=>
 cV t36 (
 rN π Z (fieldAt 35 t2 7) w fun t37 w=>
 rN π Z (loadAt 2 t37) w fun t38 w=>
 CallV π Z 116 #[x1,t38] w fun t39 w=>
 j_15 w) (
 j_15 w)) →
 j_14 w) →
 rN π Z (binOp .and 155 t9 (.int .u64 16)) w fun t40 w=>
 rN π Z (eqOp .neq 155 false true t40 (.int .u64 0)) w fun t41 w=>
 cV t41 (
 rN π Z (fieldAt 35 t2 5) w fun t42 w=>
 rN π Z (loadAt 4 t42) w fun t43 w=>
 CallV π Z 102 #[x1,t43] w fun t44 w=>
 rN π Z (fieldAt 35 t2 6) w fun t45 w=>
 rN π Z (loadAt 4 t45) w fun t46 w=>
 CallV π Z 102 #[x1,t46] w fun t47 w=>
 j_14 w) (
 j_14 w)) →
 j_13 w) →
 rN π Z (binOp .and 155 t9 (.int .u64 8)) w fun t48 w=>
 rN π Z (eqOp .neq 155 false true t48 (.int .u64 0)) w fun t49 w=>
 cV t49 (
 rN π Z (fieldAt 35 t2 4) w fun t50 w=>
 rN π Z (loadAt 21 t50) w fun t51 w=>
 CallV π Z 198 #[x1,t51] w fun t52 w=>
 j_13 w) (
 j_13 w)) →
 j_12 w) →
 rN π Z (binOp .and 155 t9 (.int .u64 4)) w fun t53 w=>
 rN π Z (eqOp .neq 155 false true t53 (.int .u64 0)) w fun t54 w=>
 cV t54 (
 rN π Z (fieldAt 35 t2 3) w fun t55 w=>
 rN π Z (loadAt 31 t55) w fun t56 w=>
 CallV π Z 241 #[x1,t56,(.func (.func 242) #[] #[])] w fun t57 w=>
 j_12 w) (
 j_12 w)) →
 j_11 w) →
 rN π Z (binOp .and 155 t9 (.int .u64 2)) w fun t58 w=>
 rN π Z (eqOp .neq 155 false true t58 (.int .u64 0)) w fun t59 w=>
 cV t59 (
 rN π Z (fieldAt 35 t2 2) w fun t60 w=>
 rN π Z (loadAt 30 t60) w fun t61 w=>
 CallV π Z 111 #[x1,t61] w fun t62 w=>
 j_11 w) (
 j_11 w)) →
 j_10 w) →
 rN π Z (binOp .and 155 t9 (.int .u64 1)) w fun t63 w=>
 rN π Z (eqOp .neq 155 false true t63 (.int .u64 0)) w fun t64 w=>
 cV t64 (
 rN π Z (fieldAt 35 t2 1) w fun t65 w=>
 rN π Z (loadAt 9 t65) w fun t66 w=>
 CallV π Z 240 #[x1,t66] w fun t67 w=>
 j_10 w) (
 j_10 w)
def f217.an:An:=(.q (.q (.q (.sj [] (.q (.c)) (.sj [] (.q (.c)) (.sj [] (.q (.c)) (.sj [] (.q (.c)) (.sj [] (.q (.cn (.sq .leaf .leaf) .leaf)) (.sj [] (.q (.c)) (.sj [] (.q (.c)) (.sj [] (.q (.c)) (.q (.c)))))))))))))
theorem f217.calls {Z:PZ} {x0 x1 x2:Value} {w:World} {Q:PQ} (h:f217.sh Z x0 x1 x2 w Q):CallV π Z 217 #[x0,x1,x2] w Q:=
 cl Tryz.func217 f217.an [x0,x1,x2] (by kernel_rfl) (by kernel_rfl) h

def f218.sh (Z:PZ) (x0 x1:Value) (w:World) (Q:PQ):Prop:=
 rN π Z (Instr.box 267 x0) w fun t1 w=>
 rN π Z (Instr.alloc 35 true (.tuple #[])) w fun t2 w=>
 CallV π Z 77 #[x1] w fun t3 w=>
 rN π Z (Instr.build 35 #[(0,t3)]) w fun t4 w=>
 rN π Z (Instr.alloc 35 true (.tuple #[])) w fun t5 w=>
 rO π Z (storeAt 35 t5 t4) w fun w=>
 rN π Z (fieldAt 35 t5 0) w fun t6 w=>
 rN π Z (loadAt 22 t6) w fun t7 w=>
 CallV π Z 246 #[t7] w fun t8 w=>
 rN π Z (Op.unary .not t8) w fun t9 w=>
 gW (t9) false (fun k=>rN π Z (fieldAt 267 t1 0) w k) (fun t10 w=>
 gW (t9) false (fun k=>rN π Z (loadAt 4 t10) w k) (fun t11 w=>
 gW (t9) false (fun k=>k (t11) w) (fun t12 w=>
 gW (t12) true (fun k=>rN π Z (fieldAt 35 t5 0) w k) (fun t13 w=>
 gW (t12) true (fun k=>rN π Z (loadAt 22 t13) w k) (fun t14 w=>
 gW (t12) true (fun k=>rN π Z (binOp .gtr 22 t14 (.int .i8 5)) w k) (fun t15 w=>
 gW (t9) false (fun k=>rN π Z (pickV t12 t15 (.bool false)) w k) (fun t16 w=>
 rN π Z (pickV t9 (.bool true) t16) w fun t17 w=>
 cV t17 (
 CallV π Z 247 #[x1,(.int .i64 40)] w fun t18 w=>
 rN π Z (Instr.build 35 #[]) w fun t19 w=>
 rO π Z (storeAt 35 t2 t19) w fun w=>
 ∃r_20,(do loadVar 35 (← asAddr t2):Sem Value).run π w=.ok r_20 w ∧
 Q r_20 w) (
 rN π Z (loadAt 267 t1) w fun t21 w=>
 rN π Z (fieldAt 35 t5 0) w fun t22 w=>
 rN π Z (loadAt 22 t22) w fun t23 w=>
 CallV π Z 239 #[t21,t23] w fun t24 w=>
 ∀j_25:World→Prop,(∀w:World,(Env →
 ∀j_26:World→Prop,(∀w:World,(Env →
 ∀j_27:World→Prop,(∀w:World,(Env →
 ∀j_28:World→Prop,(∀w:World,(Env →
 ∀j_29:World→Prop,(∀w:World,(Env →
 ∀j_30:World→Prop,(∀w:World,(Env →
 ∀j_31:World→Prop,(∀w:World,(Env →
 ∀j_32:World→Prop,(∀w:World,(Env →
 ∀j_33:World→Prop,(∀w:World,(Env →
 rN π Z (loadAt 35 t5) w fun t34 w=>
 rO π Z (storeAt 35 t2 t34) w fun w=>
 ∃r_35,(do loadVar 35 (← asAddr t2):Sem Value).run π w=.ok r_35 w ∧
 Q r_35 w) →
 j_33 w) →
 rN π Z (binOp .and 155 t24 (.int .u64 256)) w fun t36 w=>
 rN π Z (eqOp .neq 155 false true t36 (.int .u64 0)) w fun t37 w=>
 cV t37 (
 rN π Z (Instr.build 267 #[(0,(.bool true))]) w fun t38 w=>
 rN π Z (Instr.makeFunc (.func 218) #[t38] #[]) w fun t39 w=>
 CallV π Z 253 #[x1,(.int .i64 8),t39] w fun t40 w=>
 rN π Z (fieldAt 35 t5 10) w fun t41 w=>
 rO π Z (storeAt 33 t41 t40) w fun w=>
 j_33 w) (
 j_33 w)) →
 j_32 w) →
 rN π Z (binOp .and 155 t24 (.int .u64 128)) w fun t42 w=>
 rN π Z (eqOp .neq 155 false true t42 (.int .u64 0)) w fun t43 w=>
 cV t43 (
 CallV π Z 251 #[x1,(.int .i64 4),(.func (.func 252) #[] #[])] w fun t44 w=>
 rN π Z (fieldAt 35 t5 9) w fun t45 w=>
 rO π Z (storeAt 32 t45 t44) w fun w=>
 j_32 w) (
 j_32 w)) →
 j_31 w) →
 rN π Z (binOp .and 155 t24 (.int .u64 64)) w fun t46 w=>
 rN π Z (eqOp .neq 155 false true t46 (.int .u64 0)) w fun t47 w=>
 cV t47 (
 CallV π Z 223 #[x1] w fun t48 w=>
 rN π Z (fieldAt 35 t5 8) w fun t49 w=>
 rO π Z (storeAt 21 t49 t48) w fun w=>
 j_31 w) (
 j_31 w)) →
 j_30 w) →
 rN π Z (binOp .and 155 t24 (.int .u64 32)) w fun t50 w=>
 rN π Z (eqOp .neq 155 false true t50 (.int .u64 0)) w fun t51 w=>
 cV t51 (
 CallV π Z 118 #[x1] w fun t52 w=>
 rN π Z (fieldAt 35 t5 7) w fun t53 w=>
 rO π Z (storeAt 2 t53 t52) w fun w=>
 j_30 w) (
 j_30 w)) →
 j_29 w) →
 rN π Z (binOp .and 155 t24 (.int .u64 16)) w fun t54 w=>
 rN π Z (eqOp .neq 155 false true t54 (.int .u64 0)) w fun t55 w=>
 cV t55 (
 CallV π Z 104 #[x1] w fun t56 w=>
 rN π Z (fieldAt 35 t5 5) w fun t57 w=>
 rO π Z (storeAt 4 t57 t56) w fun w=>
 CallV π Z 104 #[x1] w fun t58 w=>
 rN π Z (fieldAt 35 t5 6) w fun t59 w=>
 rO π Z (storeAt 4 t59 t58) w fun w=>
 j_29 w) (
 j_29 w)) →
 j_28 w) →
 rN π Z (binOp .and 155 t24 (.int .u64 8)) w fun t60 w=>
 rN π Z (eqOp .neq 155 false true t60 (.int .u64 0)) w fun t61 w=>
 cV t61 (
 CallV π Z 223 #[x1] w fun t62 w=>
 rN π Z (fieldAt 35 t5 4) w fun t63 w=>
 rO π Z (storeAt 21 t63 t62) w fun w=>
 j_28 w) (
 j_28 w)) →
 j_27 w) →
 rN π Z (binOp .and 155 t24 (.int .u64 4)) w fun t64 w=>
 rN π Z (eqOp .neq 155 false true t64 (.int .u64 0)) w fun t65 w=>
 cV t65 (
 CallV π Z 249 #[x1,(.int .i64 4),(.func (.func 250) #[] #[])] w fun t66 w=>
 rN π Z (fieldAt 35 t5 3) w fun t67 w=>
 rO π Z (storeAt 31 t67 t66) w fun w=>
 j_27 w) (
 j_27 w)) →
 j_26 w) →
 rN π Z (binOp .and 155 t24 (.int .u64 2)) w fun t68 w=>
 rN π Z (eqOp .neq 155 false true t68 (.int .u64 0)) w fun t69 w=>
 cV t69 (
 CallV π Z 113 #[x1,(.int .i64 96)] w fun t70 w=>
 rN π Z (fieldAt 35 t5 2) w fun t71 w=>
 rO π Z (storeAt 30 t71 t70) w fun w=>
 j_26 w) (
 j_26 w)) →
 j_25 w) →
 rN π Z (binOp .and 155 t24 (.int .u64 1)) w fun t72 w=>
 rN π Z (eqOp .neq 155 false true t72 (.int .u64 0)) w fun t73 w=>
 cV t73 (
 CallV π Z 248 #[x1,(.int .i64 64)] w fun t74 w=>
 rN π Z (fieldAt 35 t5 1) w fun t75 w=>
 rO π Z (storeAt 9 t75 t74) w fun w=>
 j_25 w) (
 j_25 w))) w) w) w) w) w) w) w
def f218.an:An:=(.q (.q (.sq (.q (.cn (.q (.sq .leaf .leaf)) .leaf)) (.q (.sj [] (.q (.c)) (.sj [] (.q (.c)) (.sj [] (.q (.c)) (.sj [] (.q (.c)) (.sj [] (.q (.cn (.sq .leaf .leaf) .leaf)) (.sj [] (.q (.c)) (.sj [] (.q (.c)) (.sj [] (.q (.c)) (.sj [] (.q (.c)) (.sq .leaf .leaf))))))))))))))
theorem f218.calls {Z:PZ} {x0 x1:Value} {w:World} {Q:PQ} (h:f218.sh Z x0 x1 w Q):CallV π Z 218 #[x0,x1] w Q:=
 cl Tryz.func218 f218.an [x0,x1] (by kernel_rfl) (by kernel_rfl) h

def f219.sh (Z:PZ) (x0:Value) (w:World) (Q:PQ):Prop:=
 rN π Z (Instr.box 35 x0) w fun t1 w=>
 rN π Z (fieldAt 35 t1 0) w fun t2 w=>
 rN π Z (loadAt 22 t2) w fun t3 w=>
 CallV π Z 246 #[t3] w fun t4 w=>
 rN π Z (Op.unary .not t4) w fun t5 w=>
 gW (t5) false (fun k=>rN π Z (loadAt 35 t1) w k) (fun t6 w=>
 gW (t5) false (fun k=>CallV π Z 254 #[t6] w k) (fun t7 w=>
 gW (t5) false (fun k=>rN π Z (Op.unary .not t7) w k) (fun t8 w=>
 rN π Z (pickV t5 (.bool true) t8) w fun t9 w=>
 cV t9 (
 Q (.int .i64 40) w) (
 rN π Z (fieldAt 35 t1 10) w fun t10 w=>
 rN π Z (loadAt 33 t10) w fun t11 w=>
 rN π Z (Builtin.len_ #[33] 3 #[t11]) w fun t12 w=>
 ∃J_13:Nat→PQ,(∃m,J_13 m (.int .i64 0) w) ∧
 ∀m_13,∀t14:Value,∀w:World,J_13 m_13 t14 w→Env →
 rN π Z (binOp .lss 3 t14 t12) w fun t15 w=>
 cV t15 (
 rN π Z (indexAt 33 t11 t14) w fun t16 w=>
 rN π Z (loadAt 35 t16) w fun t17 w=>
 rN π Z (Instr.alloc 35 true (.tuple #[])) w fun t18 w=>
 rO π Z (storeAt 35 t18 t17) w fun w=>
 rN π Z (loadAt 35 t18) w fun t19 w=>
 CallV π Z 255 #[t19] w fun t20 w=>
 rN π Z (Op.unary .not t20) w fun t21 w=>
 cV t21 (
 Q (.int .i64 40) w) (
 rN π Z (binOp .add 3 t14 (.int .i64 1)) w fun t22 w=>
 ∃n_13,n_13 < m_13∧J_13 n_13 t22 w)) (
 Q (.int .i64 0) w))) w) w) w
def f219.an:An:=(.q (.sq (.q (.cn (.sq .leaf .leaf) .leaf)) (.sq (.q (.bl (.lp [17] (.q (.sq (.c) (.sq (.bl (.q (.q (.cn (.sq .leaf .leaf) .leaf)))) .leaf)))))) (.sq .leaf .leaf))))
theorem f219.calls {Z:PZ} {x0:Value} {w:World} {Q:PQ} (h:f219.sh Z x0 w Q):CallV π Z 219 #[x0] w Q:=
 cl Tryz.func219 f219.an [x0] (by kernel_rfl) (by kernel_rfl) h

def f220.sh (Z:PZ) (x0:Value) (w:World) (Q:PQ):Prop:=
 rN π Z (Builtin.len_ #[168] 3 #[x0]) w fun t1 w=>
 ∃J_2:Nat→PQ,(∃m,J_2 m (.int .i64 0) w) ∧
 ∀m_2,∀t3:Value,∀w:World,J_2 m_2 t3 w→Env →
 rN π Z (binOp .lss 3 t3 t1) w fun t4 w=>
 cV t4 (
 rN π Z (indexAt 168 x0 t3) w fun t5 w=>
 rN π Z (loadAt 3 t5) w fun t6 w=>
 rN π Z (eqOp .neq 3 false false t6 (.int .i64 0)) w fun t7 w=>
 cV t7 (
 Q t6 w) (
 rN π Z (binOp .add 3 t3 (.int .i64 1)) w fun t8 w=>
 ∃n_2,n_2 < m_2∧J_2 n_2 t8 w)) (
 Q (.int .i64 0) w)
def f220.an:An:=(.q (.q (.sq (.q (.bl (.lp [8] (.q (.sq (.c) (.sq (.bl (.q (.q (.cn (.sq .leaf .leaf) .leaf)))) .leaf)))))) (.sq .leaf .leaf))))
theorem f220.calls {Z:PZ} {x0:Value} {w:World} {Q:PQ} (h:f220.sh Z x0 w Q):CallV π Z 220 #[x0] w Q:=
 cl Tryz.func220 f220.an [x0] (by kernel_rfl) (by kernel_rfl) h

def f221.sh (Z:PZ) (x0 x1:Value) (w:World) (Q:PQ):Prop:=
 CallV π Z 256 #[x0] w fun t1 w=>
 CallV π Z 256 #[x1] w fun t2 w=>
 cV t1 (
 cV t2 (
 Q (.int .i64 0) w) (
 Q (.int .i64 (-1)) w)) (
 cV t2 (
 Q (.int .i64 1) w) (
 rN π Z (binOp .lss 23 x0 x1) w fun t3 w=>
 cV t3 (
 Q (.int .i64 (-1)) w) (
 rN π Z (binOp .gtr 23 x0 x1) w fun t4 w=>
 cV t4 (
 Q (.int .i64 1) w) (
 Q (.int .i64 0) w))))
def f221.an:An:=(.q (.q (.q (.sq (.q (.cn (.sq (.q (.cn (.sq .leaf .leaf) .leaf)) (.sq .leaf .leaf)) .leaf)) (.sq (.q (.cn (.sq .leaf .leaf) .leaf)) (.sq (.q (.cn (.sq .leaf .leaf) .leaf)) (.sq (.q (.cn (.sq .leaf .leaf) .leaf)) (.sq .leaf .leaf))))))))
theorem f221.calls {Z:PZ} {x0 x1:Value} {w:World} {Q:PQ} (h:f221.sh Z x0 x1 w Q):CallV π Z 221 #[x0,x1] w Q:=
 cl Tryz.func221 f221.an [x0,x1] (by kernel_rfl) (by kernel_rfl) h

def f222.sh (Z:PZ) (x0:Value) (w:World) (Q:PQ):Prop:=
 CallV π Z 170 #[x0] w fun t1 w=>
 cV t1 (
 Q (.slice none 0 0) w) (
 runX π Z (nilChk x0) w fun t2 w=>
 rN π Z (fieldAt 239 t2 1) w fun t3 w=>
 rN π Z (loadAt 30 t3) w fun t4 w=>
 Q t4 w)
def f222.an:An:=(.q (.sq (.q (.cn (.sq .leaf .leaf) .leaf)) (.sq .leaf .leaf)))
theorem f222.calls {Z:PZ} {x0:Value} {w:World} {Q:PQ} (h:f222.sh Z x0 w Q):CallV π Z 222 #[x0] w Q:=
 cl Tryz.func222 f222.an [x0] (by kernel_rfl) (by kernel_rfl) h

def f223.sh (Z:PZ) (x0:Value) (w:World) (Q:PQ):Prop:=
 CallV π Z 169 #[x0,(.int .i64 4)] w fun t1 w=>
 rN π Z (convert 147 21 t1) w fun t2 w=>
 Q t2 w
def f223.an:An:=(.q (.sq .leaf .leaf))
theorem f223.calls {Z:PZ} {x0:Value} {w:World} {Q:PQ} (h:f223.sh Z x0 w Q):CallV π Z 223 #[x0] w Q:=
 cl Tryz.func223 f223.an [x0] (by kernel_rfl) (by kernel_rfl) h

def f224.sh (Z:PZ) (x0 x1 x2:Value) (w:World) (Q:PQ):Prop:=
 runX π Z (nilChk x0) w fun t1 w=>
 rN π Z (fieldAt 239 t1 1) w fun t2 w=>
 rO π Z (storeAt 30 t2 x1) w fun w=>
 runX π Z (nilChk x0) w fun t3 w=>
 rN π Z (fieldAt 239 t3 2) w fun t4 w=>
 rO π Z (storeAt 43 t4 x2) w fun w=>
 Q (Value.tuple #[]) w
def f224.an:An:=.leaf
theorem f224.calls {Z:PZ} {x0 x1 x2:Value} {w:World} {Q:PQ} (h:f224.sh Z x0 x1 x2 w Q):CallV π Z 224 #[x0,x1,x2] w Q:=
 cl Tryz.func224 f224.an [x0,x1,x2] (by kernel_rfl) (by kernel_rfl) h

def f225.sh (Z:PZ) (x0 x1:Value) (w:World) (Q:PQ):Prop:=
 rN π Z (convert 30 9 x0) w fun t1 w=>
 rN π Z (convert 30 9 x1) w fun t2 w=>
 rN π Z (eqOp .eql 9 false false t1 t2) w fun t3 w=>
 Q t3 w
def f225.an:An:=(.q (.sq .leaf .leaf))
theorem f225.calls {Z:PZ} {x0 x1:Value} {w:World} {Q:PQ} (h:f225.sh Z x0 x1 w Q):CallV π Z 225 #[x0,x1] w Q:=
 cl Tryz.func225 f225.an [x0,x1] (by kernel_rfl) (by kernel_rfl) h

def f226.sh (Z:PZ) (x0 x1:Value) (w:World) (Q:PQ):Prop:=
 rN π Z (Builtin.len_ #[31] 3 #[x0]) w fun t1 w=>
 rN π Z (Builtin.len_ #[31] 3 #[x1]) w fun t2 w=>
 rN π Z (eqOp .neq 3 false false t1 t2) w fun t3 w=>
 cV t3 (
 Q (.bool false) w) (
 rN π Z (Builtin.len_ #[31] 3 #[x0]) w fun t4 w=>
 ∃J_5:Nat→PQ,(∃m,J_5 m (.int .i64 0) w) ∧
 ∀m_5,∀t6:Value,∀w:World,J_5 m_5 t6 w→Env →
 rN π Z (binOp .lss 3 t6 t4) w fun t7 w=>
 cV t7 (
 Drawn w fun w=>
 pU π (indexAt 31 x0 t6) fun t8=>
 rD π (loadAt 178 t8) w fun t9=>
 pU π (indexAt 31 x1 t6) fun t10=>
 rD π (loadAt 178 t10) w fun t11=>
 pU π (eqOp .neq 178 false false t9 t11) fun t12=>
 cV t12 (
 Q (.bool false) w) (
 rN π Z (binOp .add 3 t6 (.int .i64 1)) w fun t13 w=>
 ∃n_5,n_5 < m_5∧J_5 n_5 t13 w)) (
 Q (.bool true) w))
def f226.an:An:=(.q (.sq (.q (.cn (.sq .leaf .leaf) .leaf)) (.sq (.q (.bl (.lp [13] (.q (.sq (.c) (.sq (.bl (.q (.sq (.dr (pl [0,4,8,13,16,20,24,29,32] .fin)) (.cn (.sq .leaf .leaf) .leaf)))) .leaf)))))) (.sq .leaf .leaf))))
theorem f226.calls {Z:PZ} {x0 x1:Value} {w:World} {Q:PQ} (h:f226.sh Z x0 x1 w Q):CallV π Z 226 #[x0,x1] w Q:=
 cl Tryz.func226 f226.an [x0,x1] (by kernel_rfl) (by kernel_rfl) h

def f227.sh (Z:PZ) (x0 x1:Value) (w:World) (Q:PQ):Prop:=
 rN π Z (Builtin.len_ #[32] 3 #[x0]) w fun t1 w=>
 rN π Z (Builtin.len_ #[32] 3 #[x1]) w fun t2 w=>
 rN π Z (eqOp .neq 3 false false t1 t2) w fun t3 w=>
 cV t3 (
 Q (.bool false) w) (
 rN π Z (Builtin.len_ #[32] 3 #[x0]) w fun t4 w=>
 ∃J_5:Nat→PQ,(∃m,J_5 m (.int .i64 0) w) ∧
 ∀m_5,∀t6:Value,∀w:World,J_5 m_5 t6 w→Env →
 rN π Z (binOp .lss 3 t6 t4) w fun t7 w=>
 cV t7 (
 Drawn w fun w=>
 pU π (indexAt 32 x0 t6) fun t8=>
 rD π (loadAt 175 t8) w fun t9=>
 pU π (indexAt 32 x1 t6) fun t10=>
 rD π (loadAt 175 t10) w fun t11=>
 pU π (eqOp .neq 175 false false t9 t11) fun t12=>
 cV t12 (
 Q (.bool false) w) (
 rN π Z (binOp .add 3 t6 (.int .i64 1)) w fun t13 w=>
 ∃n_5,n_5 < m_5∧J_5 n_5 t13 w)) (
 Q (.bool true) w))
def f227.an:An:=(.q (.sq (.q (.cn (.sq .leaf .leaf) .leaf)) (.sq (.q (.bl (.lp [13] (.q (.sq (.c) (.sq (.bl (.q (.sq (.dr (pl [0,4,8,13,16,20,24,29,32] .fin)) (.cn (.sq .leaf .leaf) .leaf)))) .leaf)))))) (.sq .leaf .leaf))))
theorem f227.calls {Z:PZ} {x0 x1:Value} {w:World} {Q:PQ} (h:f227.sh Z x0 x1 w Q):CallV π Z 227 #[x0,x1] w Q:=
 cl Tryz.func227 f227.an [x0,x1] (by kernel_rfl) (by kernel_rfl) h

def f228.sh (Z:PZ) (x0 x1 x2:Value) (w:World) (Q:PQ):Prop:=
 rN π Z (Builtin.len_ #[33] 3 #[x0]) w fun t1 w=>
 rN π Z (Builtin.len_ #[33] 3 #[x1]) w fun t2 w=>
 rN π Z (eqOp .neq 3 false false t1 t2) w fun t3 w=>
 cV t3 (
 Q (.bool false) w) (
 rN π Z (Builtin.len_ #[33] 3 #[x0]) w fun t4 w=>
 ∃J_5:Nat→PQ,(∃m,J_5 m (.int .i64 0) w) ∧
 ∀m_5,∀t6:Value,∀w:World,J_5 m_5 t6 w→Env →
 rN π Z (binOp .lss 3 t6 t4) w fun t7 w=>
 cV t7 (
 rN π Z (indexAt 33 x0 t6) w fun t8 w=>
 rN π Z (loadAt 35 t8) w fun t9 w=>
 rN π Z (Instr.alloc 35 true (.tuple #[])) w fun t10 w=>
 rO π Z (storeAt 35 t10 t9) w fun w=>
 rN π Z (indexAt 33 x1 t6) w fun t11 w=>
 rN π Z (loadAt 35 t11) w fun t12 w=>
 rN π Z (Instr.alloc 35 true (.tuple #[])) w fun t13 w=>
 rO π Z (storeAt 35 t13 t12) w fun w=>
 rN π Z (loadAt 35 t10) w fun t14 w=>
 rN π Z (loadAt 35 t13) w fun t15 w=>
 runX π Z (callVal x2 #[t14,t15]) w fun t16 w=>
 rN π Z (Op.unary .not t16) w fun t17 w=>
 cV t17 (
 Q (.bool false) w) (
 rN π Z (binOp .add 3 t6 (.int .i64 1)) w fun t18 w=>
 ∃n_5,n_5 < m_5∧J_5 n_5 t18 w)) (
 Q (.bool true) w))
def f228.an:An:=(.q (.sq (.q (.cn (.sq .leaf .leaf) .leaf)) (.sq (.q (.bl (.lp [17] (.q (.sq (.c) (.sq (.bl (.q (.q (.q (.cn (.sq .leaf .leaf) .leaf))))) .leaf)))))) (.sq .leaf .leaf))))
theorem f228.calls {Z:PZ} {x0 x1 x2:Value} {w:World} {Q:PQ} (h:f228.sh Z x0 x1 x2 w Q):CallV π Z 228 #[x0,x1,x2] w Q:=
 cl Tryz.func228 f228.an [x0,x1,x2] (by kernel_rfl) (by kernel_rfl) h

def f229.sh (Z:PZ) (x0:Value) (w:World) (Q:PQ):Prop:=
 ∀j_1:World→Prop,(∀w:World,(Env →
 Q (.string { data:=#[] }) w) →
 j_1 w) →
 rN π Z (eqOp .eql 22 false true x0 (.int .i8 1)) w fun t2 w=>
 cV t2 (
 Q (.string { data:=#[112,100,97,102,115,119] }) w) (
 ∀j_3:PQ,(∀t4:Value,∀w:World,(Env →
 cV t4 (
 Q (.string { data:=#[112,118,115,119] }) w) (
 rN π Z (eqOp .eql 22 false true x0 (.int .i8 3)) w fun t5 w=>
 cV t5 (
 Q (.string { data:=#[112,100,118,115,119] }) w) (
 rN π Z (eqOp .eql 22 false true x0 (.int .i8 4)) w fun t6 w=>
 cV t6 (
 Q (.string { data:=#[112,97,118,115,119] }) w) (
 rN π Z (eqOp .eql 22 false true x0 (.int .i8 6)) w fun t7 w=>
 cV t7 (
 Q (.string { data:=#[115,119,111] }) w) (
 rN π Z (eqOp .eql 22 false true x0 (.int .i8 7)) w fun t8 w=>
 cV t8 (
 Q (.string { data:=#[116] }) w) (
 rN π Z (eqOp .eql 22 false true x0 (.int .i8 8)) w fun t9 w=>
 cV t9 (
 Q (.string { data:=#[115] }) w) (
 ∀j_10:PQ,(∀t11:Value,∀w:World,(Env →
 cV t11 (
 Q (.string { data:=#[112,115,119] }) w) (
 j_1 w)) →
 j_10 t11 w) →
 rN π Z (eqOp .eql 22 false true x0 (.int .i8 9)) w fun t12 w=>
 cV t12 (
 j_10 t12 w) (
 rN π Z (eqOp .eql 22 false true x0 (.int .i8 10)) w fun t13 w=>
 cV t13 (
 j_10 t13 w) (
 rN π Z (eqOp .eql 22 false true x0 (.int .i8 11)) w fun t14 w=>
 cV t14 (
 j_10 t14 w) (
 rN π Z (eqOp .eql 22 false true x0 (.int .i8 12)) w fun t15 w=>
 j_10 t15 w)))))))))) →
 j_3 t4 w) →
 rN π Z (eqOp .eql 22 false true x0 (.int .i8 2)) w fun t16 w=>
 cV t16 (
 j_3 t16 w) (
 rN π Z (eqOp .eql 22 false true x0 (.int .i8 5)) w fun t17 w=>
 j_3 t17 w))
def f229.an:An:=(.q (.sj [] (.q (.bl (.q (.cn (.sq .leaf .leaf) (.sj [6] (.q (.c)) (.cn (.sq .leaf .leaf) (.q (.cn (.sq .leaf .leaf) (.q (.cn (.sq .leaf .leaf) (.q (.cn (.sq .leaf .leaf) (.q (.cn (.sq .leaf .leaf) (.q (.cn (.sq .leaf .leaf) (.sj [19] (.q (.cn .leaf (.q (.cn .leaf (.q (.c)))))) (.cn (.sq .leaf .leaf) .leaf)))))))))))))))))) (.sq .leaf .leaf)))
theorem f229.calls {Z:PZ} {x0:Value} {w:World} {Q:PQ} (h:f229.sh Z x0 w Q):CallV π Z 229 #[x0] w Q:=
 cl Tryz.func229 f229.an [x0] (by kernel_rfl) (by kernel_rfl) h

def f230.sh (Z:PZ) (x0 x1:Value) (w:World) (Q:PQ):Prop:=
 ∃J_1:Nat→PQ,(∃m,J_1 m (.int .i64 0) w) ∧
 ∀m_1,∀t2:Value,∀w:World,J_1 m_1 t2 w→Env →
 rN π Z (Builtin.len_ #[9] 3 #[x0]) w fun t3 w=>
 rN π Z (binOp .lss 3 t2 t3) w fun t4 w=>
 cV t4 (
 rN π Z (Instr.index 9 x0 t2) w fun t5 w=>
 rN π Z (eqOp .eql 5 false false t5 x1) w fun t6 w=>
 cV t6 (
 Q (.bool true) w) (
 rN π Z (binOp .add 3 t2 (.int .i64 1)) w fun t7 w=>
 ∃n_1,n_1 < m_1∧J_1 n_1 t7 w)) (
 Q (.bool false) w)
def f230.an:An:=(.q (.sq (.q (.bl (.lp [5] (.sq (.q (.c)) (.sq (.bl (.q (.cn (.sq .leaf .leaf) .leaf))) .leaf))))) (.sq .leaf .leaf)))
theorem f230.calls {Z:PZ} {x0 x1:Value} {w:World} {Q:PQ} (h:f230.sh Z x0 x1 w Q):CallV π Z 230 #[x0,x1] w Q:=
 cl Tryz.func230 f230.an [x0,x1] (by kernel_rfl) (by kernel_rfl) h

def f231.sh (Z:PZ) (x0:Value) (w:World) (Q:PQ):Prop:=
 ∃J_1:Nat→PQ,(∃m,J_1 m (.int .i64 0) w) ∧
 ∀m_1,∀t2:Value,∀w:World,J_1 m_1 t2 w→Env →
 rN π Z (Builtin.len_ #[31] 3 #[x0]) w fun t3 w=>
 rN π Z (binOp .lss 3 t2 t3) w fun t4 w=>
 cV t4 (
 rN π Z (indexAt 31 x0 t2) w fun t5 w=>
 rN π Z (fieldAt 178 t5 1) w fun t6 w=>
 rN π Z (fieldAt 175 t6 0) w fun t7 w=>
 rN π Z (loadAt 9 t7) w fun t8 w=>
 rN π Z (Builtin.len_ #[9] 3 #[t8]) w fun t9 w=>
 rN π Z (binOp .gtr 3 t9 (.int .i64 24)) w fun t10 w=>
 gW (t10) false (fun k=>k (x0) w) (fun t11 w=>
 gW (t10) false (fun k=>k (t2) w) (fun t12 w=>
 gW (t10) false (fun k=>rN π Z (indexAt 31 t11 t12) w k) (fun t13 w=>
 gW (t10) false (fun k=>rN π Z (fieldAt 178 t13 1) w k) (fun t14 w=>
 gW (t10) false (fun k=>rN π Z (fieldAt 175 t14 1) w k) (fun t15 w=>
 gW (t10) false (fun k=>rN π Z (loadAt 9 t15) w k) (fun t16 w=>
 gW (t10) false (fun k=>rN π Z (Builtin.len_ #[9] 3 #[t16]) w k) (fun t17 w=>
 gW (t10) false (fun k=>rN π Z (binOp .gtr 3 t17 (.int .i64 24)) w k) (fun t18 w=>
 rN π Z (pickV t10 (.bool true) t18) w fun t19 w=>
 cV t19 (
 Q (.bool false) w) (
 rN π Z (binOp .add 3 t2 (.int .i64 1)) w fun t20 w=>
 ∃n_1,n_1 < m_1∧J_1 n_1 t20 w)) w) w) w) w) w) w) w) w) (
 rN π Z (Builtin.len_ #[31] 3 #[x0]) w fun t21 w=>
 rN π Z (binOp .leq 3 t21 (.int .i64 4)) w fun t22 w=>
 Q t22 w)
def f231.an:An:=(.q (.sq (.q (.bl (.lp [3] (.sq (.q (.c)) (.sq (.bl (.q (.cn (.sq .leaf .leaf) .leaf))) .leaf))))) (.sq .leaf .leaf)))
theorem f231.calls {Z:PZ} {x0:Value} {w:World} {Q:PQ} (h:f231.sh Z x0 w Q):CallV π Z 231 #[x0] w Q:=
 cl Tryz.func231 f231.an [x0] (by kernel_rfl) (by kernel_rfl) h

def f232.sh (Z:PZ) (x0:Value) (w:World) (Q:PQ):Prop:=
 ∃J_1:Nat→PQ,(∃m,J_1 m (.int .i64 0) w) ∧
 ∀m_1,∀t2:Value,∀w:World,J_1 m_1 t2 w→Env →
 rN π Z (Builtin.len_ #[32] 3 #[x0]) w fun t3 w=>
 rN π Z (binOp .lss 3 t2 t3) w fun t4 w=>
 cV t4 (
 rN π Z (indexAt 32 x0 t2) w fun t5 w=>
 rN π Z (fieldAt 175 t5 0) w fun t6 w=>
 rN π Z (loadAt 9 t6) w fun t7 w=>
 rN π Z (Builtin.len_ #[9] 3 #[t7]) w fun t8 w=>
 rN π Z (binOp .gtr 3 t8 (.int .i64 24)) w fun t9 w=>
 gW (t9) false (fun k=>k (x0) w) (fun t10 w=>
 gW (t9) false (fun k=>k (t2) w) (fun t11 w=>
 gW (t9) false (fun k=>rN π Z (indexAt 32 t10 t11) w k) (fun t12 w=>
 gW (t9) false (fun k=>rN π Z (fieldAt 175 t12 1) w k) (fun t13 w=>
 gW (t9) false (fun k=>rN π Z (loadAt 9 t13) w k) (fun t14 w=>
 gW (t9) false (fun k=>rN π Z (Builtin.len_ #[9] 3 #[t14]) w k) (fun t15 w=>
 gW (t9) false (fun k=>rN π Z (binOp .gtr 3 t15 (.int .i64 24)) w k) (fun t16 w=>
 rN π Z (pickV t9 (.bool true) t16) w fun t17 w=>
 cV t17 (
 Q (.bool false) w) (
 rN π Z (binOp .add 3 t2 (.int .i64 1)) w fun t18 w=>
 ∃n_1,n_1 < m_1∧J_1 n_1 t18 w)) w) w) w) w) w) w) w) (
 rN π Z (Builtin.len_ #[32] 3 #[x0]) w fun t19 w=>
 rN π Z (binOp .leq 3 t19 (.int .i64 4)) w fun t20 w=>
 Q t20 w)
def f232.an:An:=(.q (.sq (.q (.bl (.lp [3] (.sq (.q (.c)) (.sq (.bl (.q (.cn (.sq .leaf .leaf) .leaf))) .leaf))))) (.sq .leaf .leaf)))
theorem f232.calls {Z:PZ} {x0:Value} {w:World} {Q:PQ} (h:f232.sh Z x0 w Q):CallV π Z 232 #[x0] w Q:=
 cl Tryz.func232 f232.an [x0] (by kernel_rfl) (by kernel_rfl) h

